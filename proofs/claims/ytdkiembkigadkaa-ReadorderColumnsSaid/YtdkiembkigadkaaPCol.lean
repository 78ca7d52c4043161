/- Merged of PColA, PColB, PColC, PColD. -/
import Derived.Test.YtdkiembkigadkaaCols
import Derived.Test.YtdkiembkigadkaaPCom
import Derived.Test.YtdkiembkigadkaaMx6
import Derived.Test.YtdkiembkigadkaaMx11
/- PColA -/
set_option linter.unusedSimpArgs false
set_option linter.unusedVariables false
namespace Go.Proofs.Ytdkiembkigadkaa.M
open Go.RowKit Go.Proofs.YtdkiembkigadkaaW.PrintLast Go.Proofs.YtdkiembkigadkaaW.PrintWords Go.Proofs.YtdkiembkigadkaaW.PrintMore
theorem vldB_iff2 {b : S31} : vldB b = true ↔ -4096 ≤ b.f0 ∧ b.f0 ≤ 4096 ∧ -4096 ≤ b.f1 ∧ b.f1 ≤ 4096 ∧ 1 ≤ b.f2 ∧ b.f2 ≤ 4096 ∧ 1 ≤ b.f3 ∧ b.f3 ≤ 4096 := by
  unfold vldB
  exact decide_eq_true_iff
theorem last_snoc2 {α : Type} (out : List (List α)) (now : List α) (h : out.length < 1000000) : wrap64 (((out ++ [now]).length : Int) - 1) = (out.length : Int) := by
  rw [List.length_append, List.length_singleton]
  unfold wrap64
  omega
theorem rd_snoc2 (out : List (List Int)) (now : List Int) : rd_L3 (out ++ [now]) (out.length : Int) = now := by
  unfold rd_L3
  simp [List.getD]
theorem set_snoc2 {α : Type} (out : List α) (now x : α) : (out ++ [now]).set out.length x = out ++ [x] := by
  simp
theorem isort_snoc2 (ab : Int → Int → Bool) (l : List Int) (x : Int) : P.isort ab (l ++ [x]) = P.ins ab x (P.isort ab l) := by
  unfold P.isort
  rw [List.foldl_append]
  rfl
def rgt (l : List S31) (x : Int) : Int := (rd_T31 l x).f0 + (rd_T31 l x).f2
/-- the columns: those that are shut, the open one, how far right it reaches, what is to come -/
def cf_ (l : List S31) (gap : Int) (out : List (List Int)) (now : List Int) (rt : Int) : List Int → List (List Int)
  | [] => out ++ [now]
  | x :: s => if boxX l x ≥ rt + gap then cf_ l gap (out ++ [now]) [x] (rgt l x) s else cf_ l gap out (now ++ [x]) (mx rt (rgt l x)) s
def cols (l : List S31) (gap : Int) : List Int → List (List Int)
  | [] => []
  | x :: s => cf_ l gap [] [x] (rgt l x) s
theorem empty_f (k : Nat) (x y w h : Int) (h1 : -1073741824 ≤ x ∧ x ≤ 1073741824) (h2 : -1073741824 ≤ y ∧ y ≤ 1073741824) (h3 : 1 ≤ w ∧ w ≤ 1073741824) (h4 : 1 ≤ h ∧ h ≤ 1073741824) : geometry_empty.f (k + 5) x y w h = some false := by
  unfold geometry_empty.f
  rw [Option.bind_some]
  have e0 : rd [x, y, w, h] 0 = x := rfl
  have e1 : rd [x, y, w, h] 1 = y := rfl
  have e2 : rd [x, y, w, h] 2 = w := rfl
  have e3 : rd [x, y, w, h] 3 = h := rfl
  have s0 : wrap64 (0 + 1) = 1 := step_i (i := 0) (by omega)
  have s1 : wrap64 (1 + 1) = 2 := step_i (i := 1) (by omega)
  have s2 : wrap64 (2 + 1) = 3 := step_i (i := 2) (by omega)
  have s3 : wrap64 (3 + 1) = 4 := step_i (i := 3) (by omega)
  have hl : (([x, y, w, h] : List Int).length : Int) = 4 := rfl
  rw [hl]
  unfold geometry_empty.l0
  rw [if_pos (by decide), if_pos (by decide), if_pos (by rw [hl]; decide), e0, if_neg (by omega), if_neg (by omega), s0]
  unfold geometry_empty.l0
  rw [if_pos (by decide), if_pos (by decide), if_pos (by rw [hl]; decide), e1, if_neg (by omega), if_neg (by omega), s1]
  unfold geometry_empty.l0
  rw [if_pos (by decide), if_pos (by decide), if_pos (by rw [hl]; decide), e2, if_neg (by omega), if_neg (by omega), s2]
  unfold geometry_empty.l0
  rw [if_pos (by decide), if_pos (by decide), if_pos (by rw [hl]; decide), e3, if_neg (by omega), if_neg (by omega), s3]
  unfold geometry_empty.l0
  rw [if_neg (by decide), if_neg (by omega), decide_eq_false (by omega)]
/-- the box around the column so far -/
def Cmn (x y w h rt : Int) : Prop := -4096 ≤ x ∧ x ≤ 4096 ∧ -4096 ≤ y ∧ y ≤ 4096 ∧ 1 ≤ w ∧ w ≤ 20000 ∧ 1 ≤ h ∧ h ≤ 20000 ∧ x + w = rt ∧ rt ≤ 8192 ∧ y + h ≤ 8192
theorem mx_max (a b : Int) : mx a b = max a b := by unfold mx; omega
theorem union_f (k : Nat) (x y w h rt : Int) (C : Cmn x y w h rt) (b : S31) (hv : vldB b = true) (hx : x ≤ b.f0) :
    ∃ y' w' h', geometry_Union.f (k + 10) x y w h b.f0 b.f1 b.f2 b.f3 = some (x, y', w', h') ∧ Cmn x y' w' h' (mx rt (b.f0 + b.f2)) := by
  rw [vldB_iff2] at hv
  obtain ⟨c1, c2, c3, c4, c5, c6, c7, c8, c9, c10, c11⟩ := C
  have ea := fun k => empty_f k x y w h (by omega) (by omega) (by omega) (by omega)
  have eb := fun k => empty_f k b.f0 b.f1 b.f2 b.f3 (by omega) (by omega) (by omega) (by omega)
  have e5 : geometry_empty.f (k + 10) x y w h = some false := ea (k + 5)
  have e9 : geometry_empty.f (k + 9) x y w h = some false := ea (k + 4)
  have b9 : geometry_empty.f (k + 9) b.f0 b.f1 b.f2 b.f3 = some false := eb (k + 4)
  unfold geometry_Union.f
  rw [e5, Option.bind_some, if_neg (by decide)]
  show ∃ y' w' h', geometry_Union.j0 ((k + 9) + 1) false x y w h b.f0 b.f1 b.f2 b.f3 = some (x, y', w', h') ∧ Cmn x y' w' h' (mx rt (b.f0 + b.f2))
  rw [geometry_Union.j0, if_neg (by decide), e9, Option.bind_some, if_neg (by decide), b9, Option.bind_some, if_neg (by decide)]
  have e1 : mn x b.f0 = x := by unfold mn; omega
  have w1 : wrap64 (x + w) = rt := by unfold wrap64; omega
  have w2 : wrap64 (b.f0 + b.f2) = b.f0 + b.f2 := by unfold wrap64; omega
  have w3 : wrap64 (y + h) = y + h := by unfold wrap64; omega
  have w4 : wrap64 (b.f1 + b.f3) = b.f1 + b.f3 := by unfold wrap64; omega
  rw [e1, w1, w2, w3, w4]
  have m1 : mx rt (b.f0 + b.f2) = max rt (b.f0 + b.f2) := mx_max _ _
  have m2 : mx (y + h) (b.f1 + b.f3) = max (y + h) (b.f1 + b.f3) := mx_max _ _
  have m3 : mn y b.f1 = min y b.f1 := by unfold mn; omega
  have w5 : wrap64 (mx rt (b.f0 + b.f2) - x) = mx rt (b.f0 + b.f2) - x := by rw [m1]; unfold wrap64; omega
  have w6 : wrap64 (mx (y + h) (b.f1 + b.f3) - mn y b.f1) = mx (y + h) (b.f1 + b.f3) - mn y b.f1 := by rw [m2, m3]; unfold wrap64; omega
  rw [w5, w6]
  refine ⟨_, _, _, rfl, ?_⟩
  unfold Cmn
  rw [m1, m2, m3]
  omega
theorem cmn_self (b : S31) (hv : vldB b = true) : Cmn b.f0 b.f1 b.f2 b.f3 (b.f0 + b.f2) := by
  rw [vldB_iff2] at hv
  unfold Cmn
  omega
section
variable {l : List S31} {gap : Int} {T : List Int}
theorem vld_rd (hv : ∀ b ∈ l, vldB b = true) (x : Int) (h : 0 ≤ x ∧ x < (l.length : Int)) : vldB (rd_T31 l x) = true := by
  unfold rd_T31
  rw [List.getD_eq_getElem?_getD, List.getElem?_eq_getElem (by omega), Option.getD_some]
  exact hv _ (List.getElem_mem _)
theorem colsA_l0 (hv : ∀ b ∈ l, vldB b = true) (hg : 0 ≤ gap ∧ gap ≤ 4096) (hT : ∀ x ∈ T, 0 ≤ x ∧ x < (l.length : Int)) (hn : T.length ≤ 10000) (hs : T.Pairwise fun a b => boxX l a ≤ boxX l b) :
    ∀ (m i k : Nat) (out : List (List Int)) (now : List Int) (x y w h rt : Int), i + m = T.length → m + 12 < k → out.length + now.length + 2 * m ≤ 100000 → Cmn x y w h rt → (∀ z ∈ T.drop i, x ≤ boxX l z) →
    ∃ q, colsA.l0 k l gap (out ++ [now]) T (T.length : Int) (i : Int) x y w h = some (cf_ l gap out now rt (T.drop i), q) := by
  intro m
  induction m with
  | zero =>
    intro i k out now x y w h rt hi hk hb C hx
    match k, hk with
    | k + 1, _ =>
      unfold colsA.l0
      rw [if_neg (by omega), List.drop_of_length_le (by omega), cf_]
      exact ⟨_, rfl⟩
  | succ m ih =>
    intro i k out now x y w h rt hi hk hb C hx
    match k, hk with
    | k + 11, hk =>
      have hir : i < T.length := by omega
      have hr : rd T (i : Int) = T[i] := by unfold rd; simp [hir]
      have hm := hT T[i] (List.getElem_mem hir)
      have hvi := vld_rd hv T[i] hm
      have hd := List.drop_eq_getElem_cons hir
      have hxi : x ≤ (rd_T31 l T[i]).f0 := hx T[i] (by rw [hd]; exact List.mem_cons_self)
      have hlater : ∀ z ∈ T.drop (i + 1), (rd_T31 l T[i]).f0 ≤ boxX l z := by
        intro z hz
        obtain ⟨j, hj, rfl⟩ := List.mem_iff_getElem.1 hz
        rw [List.getElem_drop]
        exact List.pairwise_iff_getElem.1 hs i (i + 1 + j) hir (by rw [List.length_drop] at hj; omega) (by omega)
      have hB := vldB_iff2.1 hvi
      obtain ⟨c1, c2, c3, c4, c5, c6, c7, c8, c9, c10, c11⟩ := id C
      have w1 : wrap64 (x + w) = rt := by unfold wrap64; omega
      have w2 : wrap64 (rt + gap) = rt + gap := by unfold wrap64; omega
      unfold colsA.l0
      rw [if_pos (by omega), if_pos (by omega), if_pos (by omega), hr, if_pos hm.1, if_pos hm.2, if_neg (by simp only [List.length_append, List.length_singleton]; omega), hd, cf_, w1, w2]
      unfold boxX
      split
      · rename_i hq
        obtain ⟨y', w', h', hu, hC⟩ := union_f k _ _ _ _ _ (cmn_self _ hvi) _ hvi (Int.le_refl _)
        have em : mx ((rd_T31 l T[i]).f0 + (rd_T31 l T[i]).f2) ((rd_T31 l T[i]).f0 + (rd_T31 l T[i]).f2) = rgt l T[i] := by unfold mx rgt; omega
        rw [em] at hC
        rw [if_pos (by simp only [List.length_append, List.length_singleton]; omega), Option.bind_some, hu, Option.bind_some, last_snoc2 _ _ (by simp only [List.length_append, List.length_singleton]; omega), if_pos (by omega),
          if_pos (by simp only [List.length_append, List.length_singleton]; omega), rd_snoc2, if_pos (by decide), Int.toNat_natCast, set_snoc2, step_i (by omega), List.nil_append]
        exact ih (i + 1) (k + 10) (out ++ [now]) [T[i]] _ y' w' h' _ (by omega) (by omega) (by simp only [List.length_append, List.length_singleton]; omega) hC hlater
      · rename_i hq
        obtain ⟨y', w', h', hu, hC⟩ := union_f k _ _ _ _ _ C _ hvi hxi
        rw [hu, Option.bind_some, last_snoc2 _ _ (by omega), if_pos (by omega), if_pos (by simp only [List.length_append, List.length_singleton]; omega), rd_snoc2, if_pos (by omega), Int.toNat_natCast, set_snoc2, step_i (by omega)]
        exact ih (i + 1) (k + 10) out (now ++ [T[i]]) x y' w' h' _ (by omega) (by omega) (by simp only [List.length_append, List.length_singleton]; omega) hC (fun z hz => hx z (by rw [hd]; exact List.mem_cons_of_mem _ hz))
theorem colsA_all (hv : ∀ b ∈ l, vldB b = true) (hg : 0 ≤ gap ∧ gap ≤ 4096) (hT : ∀ x ∈ T, 0 ≤ x ∧ x < (l.length : Int)) (hn : T.length ≤ 10000) (hs : T.Pairwise fun a b => boxX l a ≤ boxX l b) (k : Nat) (hk : T.length + 13 < k) :
    ∃ q, colsA.l0 k l gap [] T (T.length : Int) 0 0 0 0 0 = some (cols l gap T, q) := by
  match k, hk with
  | k + 11, hk =>
    cases hT' : T with
    | nil => unfold colsA.l0; exact ⟨_, rfl⟩
    | cons x s =>
      rw [← hT']
      have hir : 0 < T.length := by rw [hT']; simp
      have hr : rd T 0 = x := by rw [hT']; rfl
      have hm := hT x (by rw [hT']; simp)
      have hvi := vld_rd hv x hm
      obtain ⟨y', w', h', hu, hC⟩ := union_f k _ _ _ _ _ (cmn_self _ hvi) _ hvi (Int.le_refl _)
      have em : mx ((rd_T31 l x).f0 + (rd_T31 l x).f2) ((rd_T31 l x).f0 + (rd_T31 l x).f2) = rgt l x := by unfold mx rgt; omega
      rw [em] at hC
      have e0 : wrap64 ((([[]] : List (List Int)).length : Int) - 1) = 0 := last_snoc2 ([] : List (List Int)) [] (by simp)
      have e1 : wrap64 (0 + 1) = ((1 : Nat) : Int) := step_i (i := 0) (by omega)
      unfold colsA.l0
      rw [if_pos (by omega), if_pos (by omega), if_pos (by omega), hr, if_pos hm.1, if_pos hm.2, if_pos (by rfl), if_pos (by decide), Option.bind_some, List.nil_append, hu, Option.bind_some, e0, if_pos (by decide), if_pos (by decide), if_pos (by decide), e1]
      have hd : T.drop 1 = s := by rw [hT']; rfl
      have h := colsA_l0 hv hg hT hn hs (T.length - 1) 1 (k + 10) [] [x] _ y' w' h' _ (by omega) (by omega) (by simp; omega) hC (fun z hz => by
        rw [hd] at hz
        rw [hT'] at hs
        exact (List.pairwise_cons.1 hs).1 z hz)
      have hp : cols l gap T = cf_ l gap [] [x] (rgt l x) s := by rw [hT']; rfl
      rw [hd] at h
      rw [hp]
      exact h
end
end Go.Proofs.Ytdkiembkigadkaa.M

/- PColB -/
set_option linter.unusedSimpArgs false
set_option linter.unusedVariables false
namespace Go.Proofs.Ytdkiembkigadkaa.M
open Go.RowKit Go.Proofs.YtdkiembkigadkaaW.PrintLast Go.Proofs.YtdkiembkigadkaaW.PrintWords Go.Proofs.YtdkiembkigadkaaW.PrintMore
/-- of what is to come the open column's rest, and what is behind it -/
def tk (l : List S31) (gap : Int) (rt : Int) : List Int → List Int × List Int
  | [] => ([], [])
  | x :: s => if boxX l x ≥ rt + gap then ([], x :: s) else (x :: (tk l gap (mx rt (rgt l x)) s).1, (tk l gap (mx rt (rgt l x)) s).2)
theorem cf_tk (l : List S31) (gap : Int) : ∀ (s : List Int) (out : List (List Int)) (now : List Int) (rt : Int), cf_ l gap out now rt s = out ++ (now ++ (tk l gap rt s).1) :: cols l gap (tk l gap rt s).2 := by
  intro s
  induction s with
  | nil => intro out now rt; simp [cf_, tk, cols]
  | cons x s ih =>
    intro out now rt
    rw [cf_, tk]
    split
    · rw [ih, cols, ih]
      simp
    · rw [ih]
      simp
theorem cols_cons (l : List S31) (gap : Int) (x : Int) (s : List Int) : cols l gap (x :: s) = (x :: (tk l gap (rgt l x) s).1) :: cols l gap (tk l gap (rgt l x) s).2 := by
  rw [cols, cf_tk]
  simp
theorem tk_app (l : List S31) (gap : Int) : ∀ (s : List Int) (rt : Int), (tk l gap rt s).1 ++ (tk l gap rt s).2 = s := by
  intro s
  induction s with
  | nil => intro rt; rfl
  | cons x s ih =>
    intro rt
    rw [tk]
    split
    · rfl
    · rw [List.cons_append, ih]
/-- what is behind begins behind all that reach up to rt, and behind all of the column -/
theorem tk_far (l : List S31) (gap : Int) : ∀ (s : List Int) (rt : Int), s.Pairwise (fun a b => boxX l a ≤ boxX l b) → ∀ z ∈ (tk l gap rt s).2, boxX l z ≥ rt + gap ∧ ∀ u ∈ (tk l gap rt s).1, boxX l z ≥ rgt l u + gap := by
  intro s
  induction s with
  | nil => intro rt _ z hz; cases hz
  | cons x s ih =>
    intro rt hs z hz
    have hs' := List.pairwise_cons.1 hs
    rw [tk] at hz ⊢
    split at hz
    · rename_i hq
      rw [if_pos hq]
      refine ⟨?_, fun u hu => (by cases hu)⟩
      rcases List.mem_cons.1 hz with rfl | hz
      · exact hq
      · have := hs'.1 z hz
        omega
    · rename_i hq
      rw [if_neg hq]
      obtain ⟨h1, h2⟩ := ih _ hs'.2 z hz
      rw [mx_max] at h1
      refine ⟨by omega, fun u hu => ?_⟩
      rcases List.mem_cons.1 hu with rfl | hu
      · omega
      · exact h2 u hu
/-- each of the column's begins before the end of one before it -/
theorem tk_near (l : List S31) (gap : Int) : ∀ (s : List Int) (pre : List Int) (rt : Int), (∃ u ∈ pre, rgt l u = rt) → ∀ (a b : List Int) (y : Int), (tk l gap rt s).1 = a ++ y :: b → ∃ u ∈ pre ++ a, boxX l y < rgt l u + gap := by
  intro s
  induction s with
  | nil => intro pre rt _ a b y h; simp [tk] at h
  | cons x s ih =>
    intro pre rt hu a b y h
    rw [tk] at h
    split at h
    · simp at h
    · rename_i hq
      cases a with
      | nil =>
        rw [List.nil_append, List.cons.injEq] at h
        obtain ⟨u, h1, h2⟩ := hu
        exact ⟨u, by simpa using h1, by rw [← h.1, h2]; omega⟩
      | cons c a =>
        rw [List.cons_append, List.cons.injEq] at h
        obtain ⟨rfl, h⟩ := h
        have hp : ∃ u ∈ pre ++ [x], rgt l u = mx rt (rgt l x) := by
          obtain ⟨u, h1, h2⟩ := hu
          unfold mx
          split
          · exact ⟨x, by simp, rfl⟩
          · exact ⟨u, by simp [h1], h2⟩
        obtain ⟨u, h1, h2⟩ := ih (pre ++ [x]) _ hp a b y h
        exact ⟨u, by simpa using h1, h2⟩
/-- near, of two valid boxes -/
def nearB (l : List S31) (gap : Int) (a b : Int) : Bool := if boxX l a > boxX l b then decide (boxX l a < rgt l b + gap) else decide (boxX l b < rgt l a + gap)
theorem near_f {l : List S31} {gap : Int} (hv : ∀ b ∈ l, vldB b = true) (hg : 0 ≤ gap ∧ gap ≤ 4096) {a b : Int} (ha : 0 ≤ a ∧ a < (l.length : Int)) (hb : 0 ≤ b ∧ b < (l.length : Int)) (k : Nat) :
    barscanref50_near.f (k + 2) (rd_T31 l a).f0 (rd_T31 l a).f1 (rd_T31 l a).f2 (rd_T31 l a).f3 (rd_T31 l b).f0 (rd_T31 l b).f1 (rd_T31 l b).f2 (rd_T31 l b).f3 gap = some (nearB l gap a b) := by
  have h1 := vldB_iff2.1 (vld_rd hv a ha)
  have h2 := vldB_iff2.1 (vld_rd hv b hb)
  have w1 : wrap64 (wrap64 ((rd_T31 l a).f0 + (rd_T31 l a).f2) + gap) = rgt l a + gap := by unfold wrap64 rgt; omega
  have w2 : wrap64 (wrap64 ((rd_T31 l b).f0 + (rd_T31 l b).f2) + gap) = rgt l b + gap := by unfold wrap64 rgt; omega
  unfold barscanref50_near.f nearB boxX
  rw [w1]
  split
  · unfold barscanref50_near.f
    rw [w2, if_neg (by omega)]
    rfl
  · rfl
theorem near_le {l : List S31} {gap : Int} {a b : Int} (h : boxX l a ≤ boxX l b) (hg : 0 ≤ gap) (hw : boxX l b < rgt l b) : nearB l gap a b = decide (boxX l b < rgt l a + gap) := by
  unfold nearB
  rw [if_neg (by omega)]
theorem near_far {l : List S31} {gap : Int} {a b : Int} (h : boxX l a ≤ boxX l b) (h2 : boxX l b ≥ rgt l a + gap) : nearB l gap a b = false := by
  unfold nearB
  rw [if_neg (by omega), decide_eq_false (by omega)]
/-- the flags tell what is left -/
def Left (l : List S31) (taken : List Bool) (R : List Int) : Prop := taken.length = l.length ∧ ∀ j, j < l.length → taken.getD j false = !decide ((j : Int) ∈ R)
def encJ : Option Nat → Int
  | none => -1
  | some i => (i : Int)
/-- the leftmost of what is left below i -/
def best (l : List S31) (R : List Int) (i : Nat) : Option Nat → Prop
  | none => ∀ j, j < i → (j : Int) ∉ R
  | some b => b < i ∧ (b : Int) ∈ R ∧ ∀ j, j < i → (j : Int) ∈ R → P.lef (boxX l) (j : Int) (b : Int) = false
theorem leftmost_l0 {l : List S31} {taken : List Bool} {R : List Int} (hL : Left l taken R) (hn : l.length ≤ 10000) : ∀ (m i k : Nat) (o : Option Nat), i + m = l.length → m < k → best l R i o →
    ∃ o', barscanref50_leftmost.l0 k l taken (encJ o) (i : Int) = some (encJ o') ∧ best l R l.length o' := by
  intro m
  induction m with
  | zero =>
    intro i k o hi hk hb
    match k, hk with
    | k + 1, _ =>
      unfold barscanref50_leftmost.l0
      rw [if_neg (by omega)]
      exact ⟨o, rfl, by rwa [show l.length = i by omega]⟩
  | succ m ih =>
    intro i k o hi hk hb
    match k, hk with
    | k + 1, hk =>
      have e : rdOf false taken (i : Int) = !decide ((i : Int) ∈ R) := by unfold rdOf; rw [Int.toNat_natCast]; exact hL.2 i (by omega)
      have hlt := hL.1
      unfold barscanref50_leftmost.l0
      rw [if_pos (by omega), if_pos (by omega), if_pos (by omega), e, step_i (by omega)]
      by_cases hm : (i : Int) ∈ R
      · rw [if_neg (by simpa using hm)]
        cases o with
        | none =>
          rw [if_pos (by decide)]
          refine ih (i + 1) k (some i) (by omega) (by omega) ⟨by omega, hm, fun j h1 h2 => ?_⟩
          by_cases hj : j = i
          · subst hj; exact (P.lef_tot _).ir _
          · exact absurd h2 (hb j (by omega))
        | some b =>
          obtain ⟨b1, b2, b3⟩ := hb
          show ∃ o', (if (b : Int) < 0 then _ else (if 0 ≤ (b : Int) then (if (b : Int) < (l.length : Int) then (if (rd_T31 l (i : Int)).f0 < (rd_T31 l (b : Int)).f0 then _ else _) else _) else _)) = _ ∧ _
          rw [if_neg (by omega), if_pos (by omega), if_pos (by omega)]
          split
          · rename_i hq
            refine ih (i + 1) k (some i) (by omega) (by omega) ⟨by omega, hm, fun j h1 h2 => ?_⟩
            by_cases hj : j = i
            · subst hj; exact (P.lef_tot _).ir _
            · cases hc : P.lef (boxX l) (j : Int) (i : Int)
              · rfl
              · have := b3 j (by omega) h2
                have hn : ¬ P.lef (boxX l) (j : Int) (b : Int) = true := by rw [this]; simp
                rw [P.lef_iff] at hc hn
                unfold boxX at hc hn
                omega
          · rename_i hq
            refine ih (i + 1) k (some b) (by omega) (by omega) ⟨by omega, b2, fun j h1 h2 => ?_⟩
            by_cases hj : j = i
            · subst hj
              cases hc : P.lef (boxX l) (j : Int) (b : Int)
              · rfl
              · rw [P.lef_iff] at hc
                unfold boxX at hc
                omega
            · exact b3 j (by omega) h2
      · rw [if_pos (by simpa using hm)]
        refine ih (i + 1) k o (by omega) (by omega) ?_
        cases o with
        | none =>
          intro j h1
          by_cases hj : j = i
          · subst hj; exact hm
          · exact hb j (by omega)
        | some b =>
          refine ⟨by have := hb.1; omega, hb.2.1, fun j h1 h2 => ?_⟩
          by_cases hj : j = i
          · subst hj; exact absurd h2 hm
          · exact hb.2.2 j (by omega) h2
/-- the first of the sorted rest, or none -/
def hd1 : List Int → Int
  | [] => -1
  | x :: _ => x
theorem leftmost_f {l : List S31} {taken : List Bool} {R : List Int} (hL : Left l taken R) (hn : l.length ≤ 10000) (hR : ∀ x ∈ R, 0 ≤ x ∧ x < (l.length : Int)) (hs : R.Pairwise fun a b => P.lef (boxX l) b a = false) (k : Nat) (hk : l.length < k) :
    barscanref50_leftmost.f k l taken = some (hd1 R) := by
  obtain ⟨o, h1, h2⟩ := leftmost_l0 hL hn l.length 0 k none (by omega) hk (fun j hj => absurd hj (Nat.not_lt_zero _))
  unfold barscanref50_leftmost.f
  show barscanref50_leftmost.l0 k l taken (encJ none) ((0 : Nat) : Int) = _
  rw [h1]
  congr 1
  cases R with
  | nil =>
    cases o with
    | none => rfl
    | some b => exact absurd h2.2.1 (by simp)
  | cons x s =>
    have hx := hR x (by simp)
    cases o with
    | none => exact absurd (show ((x.toNat : Nat) : Int) ∈ x :: s by rw [Int.toNat_of_nonneg hx.1]; simp) (h2 x.toNat (by omega))
    | some b =>
      show (b : Int) = x
      by_cases he : (b : Int) = x
      · exact he
      · have hbs : (b : Int) ∈ s := by
          rcases List.mem_cons.1 h2.2.1 with h | h
          · exact absurd h he
          · exact h
        have g1 := (List.pairwise_cons.1 hs).1 _ hbs
        have g2 := h2.2.2 x.toNat (by omega) (by rw [Int.toNat_of_nonneg hx.1]; simp)
        rw [Int.toNat_of_nonneg hx.1] at g2
        exact ((P.lef_tot (boxX l)).to _ _ g2 g1).symm
end Go.Proofs.Ytdkiembkigadkaa.M

/- PColC -/
set_option linter.unusedSimpArgs false
set_option linter.unusedVariables false
namespace Go.Proofs.Ytdkiembkigadkaa.M
open Go.RowKit Go.Proofs.YtdkiembkigadkaaW.PrintLast Go.Proofs.YtdkiembkigadkaaW.PrintWords Go.Proofs.YtdkiembkigadkaaW.PrintMore
theorem rd_get {C : List Int} {p : Nat} (h : p < C.length) : rd C (p : Int) = C[p] := by unfold rd; simp [h]
theorem rd_app {C : List Int} {q : Int} {p : Nat} (h : p < C.length) : rd (C ++ [q]) (p : Int) = rd C (p : Int) := by
  rw [rd_get h, rd_get (by simp; omega), List.getElem_append_left h]
theorem len_le {n : Nat} {C : List Int} (hn : C.Nodup) (hr : ∀ x ∈ C, 0 ≤ x ∧ x < (n : Int)) : C.length ≤ n := by
  have hnd : (C.map Int.toNat).Nodup := by
    unfold List.Nodup at hn ⊢
    rw [List.pairwise_map]
    refine hn.imp_of_mem fun ha hb h e => h ?_
    have := hr _ ha
    have := hr _ hb
    omega
  have := Map.left_len (n := n) (bf := fun _ _ => false) (tk := C.map Int.toNat) ⟨hnd, fun x hx => by
    obtain ⟨y, hy, rfl⟩ := List.mem_map.1 hx
    have := hr y hy
    omega, fun _ _ _ _ _ => rfl⟩
  rw [List.length_map] at this
  omega
section
variable {l : List S31} {gap : Int} (hv : ∀ b ∈ l, vldB b = true) (hg : 0 ≤ gap ∧ gap ≤ 4096) (hn : l.length ≤ 10000) {R g b : List Int} {x0 : Int}
/-- the column so far -/
structure Gr (l : List S31) (R g : List Int) (x0 : Int) (C : List Int) (taken : List Bool) : Prop where
  hx : x0 ∈ C
  nd : C.Nodup
  sub : ∀ c ∈ C, c ∈ g
  len : taken.length = l.length
  fl : ∀ j, j < l.length → taken.getD j false = !decide ((j : Int) ∈ R ∧ (j : Int) ∉ C)
def Done (l : List S31) (gap : Int) (R C : List Int) (at_ : Nat) : Prop := ∀ p, p < at_ → ∀ j, j < l.length → (j : Int) ∈ R → (j : Int) ∉ C → nearB l gap (rd C (p : Int)) (j : Int) = false
theorem Done.app {C : List Int} {q : Int} {a : Nat} (h : Done l gap R C a) (ha : a ≤ C.length) : Done l gap R (C ++ [q]) a := fun p hp j h1 h2 h3 => by
  rw [rd_app (by omega)]
  exact h p hp j h1 h2 fun h4 => h3 (by simp [h4])
include hv hg hn in
theorem bfs_l2 (hR : ∀ x ∈ R, 0 ≤ x ∧ x < (l.length : Int)) (hgR : ∀ x ∈ g, x ∈ R) (hbR : ∀ x ∈ R, x ∈ g ∨ x ∈ b) (hfar : ∀ c ∈ g, ∀ z ∈ b, nearB l gap c z = false) (out : List S61) (at_ F : Nat) (S : Option (List (List Int) × Int))
    (cont : ∀ k C taken, F < k → Gr l R g x0 C taken → at_ < C.length → Done l gap R C (at_ + 1) → barscanref50_Columns.l1 k l gap taken out C ((at_ + 1 : Nat) : Int) = S) :
    ∀ (m i k : Nat) (C : List Int) (taken : List Bool), i + m = l.length → m + 3 + F < k → Gr l R g x0 C taken → at_ < C.length → Done l gap R C at_ → (∀ j, j < i → (j : Int) ∈ R → (j : Int) ∉ C → nearB l gap (rd C (at_ : Int)) (j : Int) = false) →
    barscanref50_Columns.l2 k l gap taken out C (at_ : Int) (i : Int) = S := by
  intro m
  induction m with
  | zero =>
    intro i k C taken hi hk G ha hD hd
    match k, hk with
    | k + 1, hk =>
      have hCl := len_le (n := l.length) G.nd (fun x hx => hR x (hgR x (G.sub x hx)))
      unfold barscanref50_Columns.l2
      rw [if_neg (by omega), step_i (by omega)]
      refine cont k C taken (by omega) G ha fun p hp j h1 h2 h3 => ?_
      by_cases hpe : p = at_
      · subst hpe; exact hd j (by omega) h2 h3
      · exact hD p (by omega) j h1 h2 h3
  | succ m ih =>
    intro i k0 C taken hi hk G ha hD hd
    obtain ⟨k, rfl⟩ : ∃ q, k0 = q + 3 := ⟨k0 - 3, by omega⟩
    · have hCl := len_le (n := l.length) G.nd (fun x hx => hR x (hgR x (G.sub x hx)))
      have e : rdOf false taken (i : Int) = !decide ((i : Int) ∈ R ∧ (i : Int) ∉ C) := by unfold rdOf; rw [Int.toNat_natCast]; exact G.fl i (by omega)
      have hlt := G.len
      have hca := G.sub _ (List.getElem_mem ha)
      have hcr := hR _ (hgR _ hca)
      unfold barscanref50_Columns.l2
      rw [if_pos (by omega), if_pos (by omega), if_pos (by omega), e, step_i (by omega)]
      by_cases hm : (i : Int) ∈ R ∧ (i : Int) ∉ C
      · rw [if_neg (by rw [decide_eq_true hm]; simp), if_pos (by omega), if_pos (by omega), rd_get ha, if_pos hcr.1, if_pos hcr.2, near_f hv hg hcr ⟨by omega, by omega⟩ k, Option.bind_some]
        cases hc : nearB l gap C[at_] (i : Int)
        · rw [if_neg (by simp)]
          refine ih (i + 1) (k + 2) C taken (by omega) (by omega) G ha hD fun j h1 h2 h3 => ?_
          by_cases hj : j = i
          · subst hj; rw [rd_get ha]; exact hc
          · exact hd j (by omega) h2 h3
        · rw [if_pos rfl, if_pos (by omega), Int.toNat_natCast]
          have hig : (i : Int) ∈ g := by
            rcases hbR _ hm.1 with h | h
            · exact h
            · have := hfar _ hca _ h
              rw [hc] at this
              cases this
          refine ih (i + 1) (k + 2) (C ++ [(i : Int)]) (taken.set i true) (by omega) (by omega) ⟨by simp [G.hx], ?_, ?_, by simp [hlt], ?_⟩ (by simp; omega) (hD.app (by omega)) fun j h1 h2 h3 => ?_
          · rw [List.nodup_append]
            refine ⟨G.nd, by simp, fun p hp q hq => ?_⟩
            rw [List.mem_singleton] at hq
            subst hq
            rintro rfl
            exact hm.2 hp
          · intro c hc
            rcases List.mem_append.1 hc with h | h
            · exact G.sub c h
            · rw [List.mem_singleton] at h; subst h; exact hig
          · intro j hj
            by_cases hji : j = i
            · subst hji
              have : ¬ ((j : Int) ∈ R ∧ (j : Int) ∉ C ++ [(j : Int)]) := fun h => h.2 (by simp)
              rw [decide_eq_false this]
              simp [List.getD, List.getElem?_set, hlt, hj]
            · have hs : (taken.set i true).getD j false = taken.getD j false := by
                simp [List.getD, List.getElem?_set, Ne.symm hji]
              rw [hs, G.fl j hj]
              have : ((j : Int) ∈ R ∧ (j : Int) ∉ C) ↔ ((j : Int) ∈ R ∧ (j : Int) ∉ C ++ [(i : Int)]) := by
                rw [List.mem_append, List.mem_singleton]
                constructor
                · rintro ⟨h1, h2⟩
                  exact ⟨h1, fun h => h.elim h2 (fun h => hji (by omega))⟩
                · rintro ⟨h1, h2⟩
                  exact ⟨h1, fun h => h2 (.inl h)⟩
              rw [decide_eq_decide.2 this]
          · rw [rd_app ha]
            by_cases hj : j = i
            · subst hj; exact absurd (show (j : Int) ∈ C ++ [(j : Int)] by simp) h3
            · exact hd j (by omega) h2 fun h => h3 (by simp [h])
      · rw [if_pos (by rw [decide_eq_false hm]; rfl)]
        refine ih (i + 1) (k + 2) C taken (by omega) (by omega) G ha hD fun j h1 h2 h3 => ?_
        by_cases hj : j = i
        · subst hj; exact absurd ⟨h2, h3⟩ hm
        · exact hd j (by omega) h2 h3
include hv hg hn in
theorem bfs_l1 (hR : ∀ x ∈ R, 0 ≤ x ∧ x < (l.length : Int)) (hgR : ∀ x ∈ g, x ∈ R) (hbR : ∀ x ∈ R, x ∈ g ∨ x ∈ b) (hfar : ∀ c ∈ g, ∀ z ∈ b, nearB l gap c z = false) (out : List S61) (F : Nat) (S : Option (List (List Int) × Int))
    (cont : ∀ k C taken, F < k → Gr l R g x0 C taken → Done l gap R C C.length → barscanref50_Columns.l3 k l gap taken out C [] 0 = S) :
    ∀ (m at_ k : Nat) (C : List Int) (taken : List Bool), at_ + m = l.length + 1 → m * (l.length + 6) + F < k → Gr l R g x0 C taken → at_ ≤ C.length → Done l gap R C at_ →
    barscanref50_Columns.l1 k l gap taken out C (at_ : Int) = S := by
  intro m
  induction m with
  | zero =>
    intro at_ k C taken hi hk G ha hD
    have hCl := len_le (n := l.length) G.nd (fun x hx => hR x (hgR x (G.sub x hx)))
    omega
  | succ m ih =>
    intro at_ k C taken hi hk G ha hD
    rw [Nat.succ_mul] at hk
    match k, hk with
    | k + 1, hk =>
      unfold barscanref50_Columns.l1
      split
      · rename_i hq
        refine bfs_l2 hv hg hn hR hgR hbR hfar out at_ (m * (l.length + 6) + F) S (fun k C' taken' hk' G' ha' hD' => ?_) l.length 0 k C taken (by omega) (by omega) G (by omega) hD (fun j hj => absurd hj (Nat.not_lt_zero _))
        refine ih (at_ + 1) k C' taken' (by omega) hk' G' (by omega) hD'
      · rename_i hq
        have e : at_ = C.length := by omega
        subst e
        exact cont k C taken (by omega) G hD
include hn in
theorem ins_l3 (taken : List Bool) (out : List S61) (C : List Int) (hC : ∀ x ∈ C, 0 ≤ x ∧ x < (l.length : Int)) (hCl : C.length ≤ l.length) (ho : out.length < 1000000) (F : Nat) (S : Option (List (List Int) × Int)) (z : Int) (hz : ∀ k, l.length < k → barscanref50_leftmost.f k l taken = some z)
    (cont : ∀ k, F < k → barscanref50_Columns.l0 k l gap taken (out ++ [⟨P.isort (P.abv (boxY l) (boxX l)) C⟩]) z = S) :
    ∀ (m i k : Nat), i + m = C.length → m + l.length + 2 + F < k → barscanref50_Columns.l3 k l gap taken out C (P.isort (P.abv (boxY l) (boxX l)) (C.take i)) (i : Int) = S := by
  intro m
  induction m with
  | zero =>
    intro i k hi hk
    match k, hk with
    | k + 1, hk =>
      unfold barscanref50_Columns.l3
      rw [if_neg (by omega), List.take_of_length_le (by omega), if_pos (by omega), hz k (by omega), Option.bind_some]
      exact cont k (by omega)
  | succ m ih =>
    intro i k hi hk
    match k, hk with
    | k + 1, hk =>
      have hir : i < C.length := by omega
      have hm := hC _ (List.getElem_mem hir)
      unfold barscanref50_Columns.l3
      rw [if_pos (by omega), if_pos (by omega), rd_get hir, insert_f l C[i] hm.1 hm.2 _ (fun y hy => hC y (List.mem_of_mem_take ((P.mem_isort).1 hy))) (by rw [P.isort_length, List.length_take]; omega) k (by rw [P.isort_length, List.length_take]; omega), Option.bind_some, step_i (by omega), ← isort_snoc2, ← List.take_succ_eq_append_getElem hir]
      exact ih (i + 1) k (by omega) (by omega)
end
end Go.Proofs.Ytdkiembkigadkaa.M

/- PColD -/
set_option linter.unusedSimpArgs false
set_option linter.unusedVariables false
namespace Go.Proofs.Ytdkiembkigadkaa.M
open Go.RowKit Go.Proofs.YtdkiembkigadkaaW.PrintLast Go.Proofs.YtdkiembkigadkaaW.PrintWords Go.Proofs.YtdkiembkigadkaaW.PrintMore
theorem getD_set2 {α : Type} (z : α) (xs : List α) (a : Nat) (v : α) (b : Nat) (h : a ≠ b) : (xs.set a v).getD b z = xs.getD b z := by
  simp [List.getD, List.getElem?_set, h]
section
variable {l : List S31} {gap : Int}
theorem lefX {a b : Int} (h : P.lef (boxX l) b a = false) : boxX l a ≤ boxX l b := by
  by_cases hx : boxX l b < boxX l a
  · have : P.lef (boxX l) b a = true := P.lef_iff.2 (.inl hx)
    rw [h] at this
    cases this
  · omega
theorem rcols (hv : ∀ b ∈ l, vldB b = true) (hg : 0 ≤ gap ∧ gap ≤ 4096) (hn : l.length ≤ 10000) (B : Nat) (hB : (l.length + 1) * (l.length + 6) + 2 * l.length + 20 ≤ B) :
    ∀ (N : Nat) (R : List Int) (out : List (List Int)) (k : Nat) (taken : List Bool), R.length < N → Left l taken R → (∀ x ∈ R, 0 ≤ x ∧ x < (l.length : Int)) → R.Nodup → R.Pairwise (fun a b => P.lef (boxX l) b a = false) → out.length + R.length ≤ 10000 → R.length * B + 10020 < k →
      barscanref50_Columns.l0 k l gap taken (out.map S61.mk) (hd1 R) = some (out ++ (cols l gap R).map (P.isort (P.abv (boxY l) (boxX l))), 0) := by
  intro N
  induction N with
  | zero => intro R out k taken h; omega
  | succ N ih =>
    intro R out k taken hN hL hR hnd hs ho hk
    obtain ⟨k, rfl⟩ : ∃ q, k = q + 1 := ⟨k - 1, by omega⟩
    cases hRe : R with
    | nil =>
      unfold barscanref50_Columns.l0
      rw [if_neg (by decide), reflists_f out (by omega) k (by omega), Option.bind_some]
      simp [cols]
    | cons x s =>
      obtain ⟨a, ha⟩ : ∃ q, q = (tk l gap (rgt l x) s).1 := ⟨_, rfl⟩
      obtain ⟨b, hb⟩ : ∃ q, q = (tk l gap (rgt l x) s).2 := ⟨_, rfl⟩
      have hab : a ++ b = s := by rw [ha, hb]; exact tk_app l gap s _
      have hRab : R = (x :: a) ++ b := by rw [hRe, List.cons_append, hab]
      have hRl : R.length = 1 + a.length + b.length := by rw [hRab]; simp; omega
      have hxR : x ∈ R := by rw [hRe]; simp
      have hx := hR x hxR
      have hxs : R.Pairwise (fun p q => boxX l p ≤ boxX l q) := hs.imp fun h => lefX h
      have hss : s.Pairwise (fun p q => boxX l p ≤ boxX l q) := by rw [hRe] at hxs; exact (List.pairwise_cons.1 hxs).2
      have hgR : ∀ y ∈ x :: a, y ∈ R := fun y hy => by rw [hRab]; exact List.mem_append_left _ hy
      have hbR : ∀ y ∈ R, y ∈ x :: a ∨ y ∈ b := fun y hy => by rw [hRab] at hy; exact List.mem_append.1 hy
      have hdis : ∀ y, y ∈ x :: a → y ∉ b := fun y h1 h2 => by
        rw [hRab, List.nodup_append] at hnd
        exact hnd.2.2 y h1 y h2 rfl
      have hfar : ∀ c ∈ x :: a, ∀ z ∈ b, nearB l gap c z = false := by
        intro c hc z hz
        have h1 : boxX l c ≤ boxX l z := by
          rw [hRab, List.pairwise_append] at hxs
          exact hxs.2.2 c hc z hz
        obtain ⟨h2, h3⟩ := tk_far l gap s (rgt l x) hss z (by rw [← hb]; exact hz)
        refine near_far h1 ?_
        rcases List.mem_cons.1 hc with rfl | hc
        · exact h2
        · exact h3 c (by rw [← ha]; exact hc)
      have hgnd : (x :: a).Nodup := by rw [hRab, List.nodup_append] at hnd; exact hnd.1
      have hbnd : b.Nodup := by rw [hRab, List.nodup_append] at hnd; exact hnd.2.1
      have hbs : b.Pairwise (fun a b => P.lef (boxX l) b a = false) := by rw [hRab, List.pairwise_append] at hs; exact hs.2.1
      have hmul : (b.length + 1) * B ≤ R.length * B := Nat.mul_le_mul_right _ (by omega)
      rw [Nat.succ_mul] at hmul
      obtain ⟨X, hX⟩ : ∃ q : Nat, (q : Int) = x := ⟨x.toNat, Int.toNat_of_nonneg hx.1⟩
      have hXl : X < l.length := by omega
      have hlen := hL.1
      rw [show hd1 (x :: s) = x from rfl]
      unfold barscanref50_Columns.l0
      rw [if_pos (by omega), if_pos (by omega), if_pos (by omega)]
      have hG : Gr l R (x :: a) x [x] (taken.set x.toNat true) := by
        refine ⟨by simp, by simp, by simp, by simp [hlen], fun j hj => ?_⟩
        by_cases hjx : (j : Int) = x
        · have : ¬ ((j : Int) ∈ R ∧ (j : Int) ∉ [x]) := fun h => h.2 (by simp [hjx])
          rw [decide_eq_false this, show x.toNat = j by omega]
          simp [List.getD, List.getElem?_set, hlen, hj]
        · have hs2 : (taken.set x.toNat true).getD j false = taken.getD j false := getD_set2 _ _ _ _ _ (by omega)
          rw [hs2, hL.2 j hj]
          have : ((j : Int) ∈ R) ↔ ((j : Int) ∈ R ∧ (j : Int) ∉ [x]) := ⟨fun h => ⟨h, by simpa using hjx⟩, fun h => h.1⟩
          rw [decide_eq_decide.2 this]
      obtain ⟨F2, hF2⟩ : ∃ q, q = b.length * B + 10020 := ⟨_, rfl⟩
      obtain ⟨F, hF⟩ : ∃ q, q = 2 * l.length + 5 + F2 := ⟨_, rfl⟩
      have hFk : (l.length + 1) * (l.length + 6) + F < k := by omega
      refine bfs_l1 (x0 := x) hv hg hn hR hgR hbR hfar (out.map S61.mk) F _ ?_ (l.length + 1) 0 k [x] _ (Nat.zero_add _) hFk hG (Nat.zero_le _) (fun p hp => absurd hp (Nat.not_lt_zero _))
      intro k2 C taken2 hk2 G hD
      have hCl := len_le (n := l.length) G.nd (fun y hy => hR y (hgR y (G.sub y hy)))
      have hall : ∀ p, p ≤ a.length → ∀ y ∈ a.take p, y ∈ C := by
        intro p
        induction p with
        | zero => intro _ y hy; simp at hy
        | succ p ihp =>
          intro hp y hy
          have hpa : p < a.length := by omega
          rw [List.take_succ_eq_append_getElem hpa] at hy
          rcases List.mem_append.1 hy with h | h
          · exact ihp (by omega) y h
          · rw [List.mem_singleton] at h
            by_cases hyC : y ∈ C
            · exact hyC
            · exfalso
              have hdec : a = a.take p ++ y :: a.drop (p + 1) := by rw [h, ← List.drop_eq_getElem_cons hpa, List.take_append_drop]
              obtain ⟨u, hu, hlt⟩ := tk_near l gap s [x] (rgt l x) ⟨x, by simp, rfl⟩ (a.take p) (a.drop (p + 1)) y (by rw [← ha]; exact hdec)
              have huC : u ∈ C := by
                rcases List.mem_append.1 hu with h | h
                · rw [List.mem_singleton] at h; subst h; exact G.hx
                · exact ihp (by omega) u h
              have hyR : y ∈ R := hgR y (by rw [h]; exact List.mem_cons_of_mem _ (List.getElem_mem hpa))
              have hyr := hR y hyR
              have hux : boxX l u ≤ boxX l y := by
                have hR2 : R = ([x] ++ a.take p) ++ (y :: a.drop (p + 1) ++ b) := by
                  rw [hRab]
                  have := congrArg (fun q => x :: q ++ b) hdec
                  simpa only [List.cons_append, List.append_assoc, List.nil_append] using this
                rw [hR2, List.pairwise_append] at hxs
                exact hxs.2.2 u hu y (by simp)
              obtain ⟨q, hq, hqe⟩ := List.mem_iff_getElem.1 huC
              have hf := hD q hq y.toNat (by omega) (by rw [Int.toNat_of_nonneg hyr.1]; exact hyR) (by rw [Int.toNat_of_nonneg hyr.1]; exact hyC)
              rw [rd_get hq, hqe, Int.toNat_of_nonneg hyr.1] at hf
              unfold nearB at hf
              rw [if_neg (by omega), decide_eq_false_iff_not] at hf
              exact hf hlt
      have hperm : C.Perm (x :: a) := (List.perm_ext_iff_of_nodup G.nd hgnd).2 fun z => ⟨G.sub z, fun hz => by
        rcases List.mem_cons.1 hz with rfl | hz
        · exact G.hx
        · exact hall a.length (Nat.le_refl _) z (by rw [List.take_of_length_le (Nat.le_refl _)]; exact hz)⟩
      have hLb : Left l taken2 b := by
        refine ⟨G.len, fun j hj => ?_⟩
        rw [G.fl j hj]
        have : ((j : Int) ∈ R ∧ (j : Int) ∉ C) ↔ (j : Int) ∈ b := by
          rw [hperm.mem_iff]
          constructor
          · rintro ⟨h1, h2⟩
            exact (hbR _ h1).resolve_left h2
          · intro h
            exact ⟨by rw [hRab]; exact List.mem_append_right _ h, fun h2 => hdis _ h2 h⟩
        rw [decide_eq_decide.2 this]
      have hbr : ∀ y ∈ b, 0 ≤ y ∧ y < (l.length : Int) := fun y hy => hR y (by rw [hRab]; exact List.mem_append_right _ hy)
      refine ins_l3 hn taken2 (out.map S61.mk) C (fun y hy => hR y (hgR y (G.sub y hy))) hCl (by rw [List.length_map]; omega) F2 _ (hd1 b) (fun k h => leftmost_f hLb hn hbr hbs k h) ?_ C.length 0 k2 (by omega) (by omega)
      intro k3 hk3
      have h := ih b (out ++ [P.isort (P.abv (boxY l) (boxX l)) (x :: a)]) k3 taken2 (by omega) hLb hbr hbnd hbs (by simp only [List.length_append, List.length_singleton]; omega) (by omega)
      rw [List.map_append] at h
      rw [P.isort_congr (P.abv_tot _ _) hperm, cols_cons, ← ha, ← hb]
      rw [show [(⟨P.isort (P.abv (boxY l) (boxX l)) (x :: a)⟩ : S61)] = [P.isort (P.abv (boxY l) (boxX l)) (x :: a)].map S61.mk from rfl, h]
      simp
end
def srt (l : List S31) : List Int := P.isort (P.lef (boxX l)) (iota l.length)
theorem srt_mem {l : List S31} {x : Int} : x ∈ srt l ↔ 0 ≤ x ∧ x < (l.length : Int) := by unfold srt; rw [P.mem_isort, mem_iota]
theorem srt_nd (l : List S31) : (srt l).Nodup := by
  unfold srt
  rw [(P.isort_perm _).nodup_iff]
  exact (iota_asc _).imp fun h => by omega
theorem srt_len (l : List S31) : (srt l).length = l.length := by unfold srt; rw [P.isort_length, iota_length]
theorem srt_asc (l : List S31) : (srt l).Pairwise fun a b => P.lef (boxX l) b a = false := P.isort_sorted (P.lef_tot _) _
theorem cf_flat (l : List S31) (gap : Int) : ∀ (s : List Int) (out : List (List Int)) (now : List Int) (rt : Int), (cf_ l gap out now rt s).flatten = out.flatten ++ (now ++ s) := by
  intro s
  induction s with
  | nil => intro out now rt; simp [cf_]
  | cons x s ih =>
    intro out now rt
    rw [cf_]
    split
    · rw [ih]; simp
    · rw [ih]; simp
theorem cols_flat (l : List S31) (gap : Int) (s : List Int) : (cols l gap s).flatten = s := by
  cases s with
  | nil => rfl
  | cons x s => rw [cols, cf_flat]; simp
theorem cf_bound (l : List S31) (gap : Int) : ∀ (s : List Int) (out : List (List Int)) (now : List Int) (low : Int) (L : Nat), (∀ x ∈ out, x.length ≤ L) → now.length + s.length ≤ L → 1 ≤ L →
    (cf_ l gap out now low s).length ≤ out.length + 1 + s.length ∧ ∀ x ∈ cf_ l gap out now low s, x.length ≤ L := by
  intro s
  induction s with
  | nil =>
    intro out now low L h1 h2 _
    rw [cf_]
    refine ⟨by simp, fun x hx => ?_⟩
    rcases List.mem_append.1 hx with hx | hx
    · exact h1 x hx
    · rw [List.mem_singleton] at hx; subst hx; exact h2
  | cons y s ih =>
    intro out now low L h1 h2 h3
    rw [List.length_cons] at h2
    rw [cf_]
    split
    · obtain ⟨a, b⟩ := ih (out ++ [now]) [y] (rgt l y) L (fun x hx => by
        rcases List.mem_append.1 hx with hx | hx
        · exact h1 x hx
        · rw [List.mem_singleton] at hx; subst hx; omega) (by rw [List.length_singleton]; omega) h3
      exact ⟨by simp only [List.length_append, List.length_singleton, List.length_cons, List.length_nil] at a ⊢; omega, b⟩
    · obtain ⟨a, b⟩ := ih out (now ++ [y]) (mx low (rgt l y)) L h1 (by rw [List.length_append, List.length_singleton]; omega) h3
      exact ⟨by simp only [List.length_cons] at a ⊢; omega, b⟩
theorem cols_bound (l : List S31) (gap : Int) (T : List Int) : (cols l gap T).length ≤ T.length + 1 ∧ ∀ x ∈ cols l gap T, x.length ≤ T.length + 1 := by
  cases T with
  | nil => exact ⟨by simp [cols], fun x hx => by simp [cols] at hx⟩
  | cons y s =>
    obtain ⟨a, b⟩ := cf_bound l gap s [] [y] (rgt l y) (s.length + 2) (by simp) (by simp; omega) (by omega)
    rw [cols]
    exact ⟨by simp only [List.length_cons, List.length_nil] at a ⊢; omega, fun x hx => by have := b x hx; simp only [List.length_cons]; omega⟩
theorem colsB_l0 (l : List S31) : ∀ (Q P_ : List (List Int)) (k : Nat), (∀ g ∈ Q, g.length ≤ 100000 ∧ ∀ y ∈ g, 0 ≤ y ∧ y < (l.length : Int)) → P_.length + Q.length ≤ 100000 → Q.length < k →
    colsB.l0 k l (P_ ++ Q) ((P_ ++ Q).length : Int) (P_.length : Int) = some (P_ ++ Q.map (P.isort (P.abv (boxY l) (boxX l))), 0) := by
  intro Q
  induction Q with
  | nil =>
    intro P_ k _ _ hk
    obtain ⟨k, rfl⟩ : ∃ q, k = q + 1 := ⟨k - 1, by omega⟩
    unfold colsB.l0
    rw [if_neg (by simp)]
    simp
  | cons g Q ih =>
    intro P_ k hQ hl hk
    obtain ⟨k, rfl⟩ : ∃ q, k = q + 1 := ⟨k - 1, by omega⟩
    obtain ⟨h1, h2⟩ := hQ g (by simp)
    rw [List.length_cons] at hl hk
    have hd : downw.f l g = some (P.isort (P.abv (boxY l) (boxX l)) g) := by
      unfold downw.f
      rw [if_pos ⟨by omega, inR_iff.2 h2⟩]
    have hr : rd_L3 (P_ ++ g :: Q) (P_.length : Int) = g := by unfold rd_L3; simp [List.getD]
    unfold colsB.l0
    rw [if_pos (by simp only [List.length_append, List.length_cons]; omega), if_pos (by omega), if_pos (by simp only [List.length_append, List.length_cons]; omega), hr, hd, Option.bind_some, step_i (by omega), Int.toNat_natCast]
    have h := ih (P_ ++ [P.isort (P.abv (boxY l) (boxX l)) g]) k (fun g' hg' => hQ g' (by simp [hg'])) (by simp only [List.length_append, List.length_singleton]; omega) (by omega)
    simp only [List.length_append, List.length_singleton, List.append_assoc, List.singleton_append] at h
    have hset : (P_ ++ g :: Q).set P_.length (P.isort (P.abv (boxY l) (boxX l)) g) = P_ ++ P.isort (P.abv (boxY l) (boxX l)) g :: Q := by simp
    rw [hset]
    simp only [List.length_append, List.length_cons] at h ⊢
    exact h
/-- both answers -/
def colR (l : List S31) (gap : Int) : Option (List (List Int) × Int) := (check.f l gap).bind fun e => if e = 0 then some ((cols l gap (srt l)).map (P.isort (P.abv (boxY l) (boxX l))), 0) else some ([], e)
theorem columns_f (l : List S31) (gap : Int) : columnsR.f l gap = colR l gap := by
  obtain ⟨e, he, h0⟩ := check_cases l gap
  unfold columnsR.f colsK.f colR
  rw [he, Option.bind_some, Option.bind_some]
  split
  · rename_i hz
    obtain ⟨hl, hg0, hg1, hv⟩ := h0 hz
    have ho : ordX.f l = some (srt l) := by unfold ordX.f srt; rw [if_pos (by omega)]
    have hsl := srt_len l
    obtain ⟨q, hq⟩ := colsA_all (T := srt l) hv ⟨hg0, hg1⟩ (fun x hx => srt_mem.1 hx) (by omega) ((srt_asc l).imp fun h => lefX h) 5000 (by omega)
    obtain ⟨b1, b2⟩ := cols_bound l gap (srt l)
    rw [ho, Option.bind_some, hq, Option.bind_some]
    have h := colsB_l0 l (cols l gap (srt l)) [] 5000 (fun g hg => ⟨by have := b2 g hg; omega, fun y hy => srt_mem.1 (by rw [← cols_flat l gap (srt l)]; exact List.mem_flatten.2 ⟨g, hg, hy⟩)⟩) (by simp; omega) (by omega)
    exact h
  · rfl
theorem rcolumns_f (l : List S31) (gap : Int) (hn : l.length ≤ 60 ∨ 4096 < l.length) : barscanref50_Columns.f 1000000 l gap = colR l gap := by
  obtain ⟨e, he, h0⟩ := check_cases l gap
  unfold barscanref50_Columns.f colR
  rw [refcheck_f l gap 1000000 (by omega), he]
  simp only [Option.bind_some]
  split
  · rename_i hz
    obtain ⟨hl, hg0, hg1, hv⟩ := h0 hz
    try rw [if_pos hz]
    have hn60 : l.length ≤ 60 := by omega
    have hsl := srt_len l
    have hL : Left l (List.replicate l.length false) (srt l) := by
      refine ⟨by simp, fun j hj => ?_⟩
      rw [decide_eq_true (srt_mem.2 ⟨by omega, by omega⟩)]
      simp [List.getD, List.getElem?_replicate, hj]
    have hm : (l.length + 1) * (l.length + 6) ≤ 61 * 66 := Nat.mul_le_mul (by omega) (by omega)
    rw [if_pos (by omega), Int.toNat_natCast, if_pos (by omega), leftmost_f hL (by omega) (fun x hx => srt_mem.1 hx) (srt_asc l) 1000000 (by omega), Option.bind_some]
    have h := rcols hv ⟨hg0, hg1⟩ (by omega) 5000 (by omega) (l.length + 1) (srt l) [] 1000000 _ (by omega) hL (fun x hx => srt_mem.1 hx) (srt_nd l) (srt_asc l) (by simp; omega) (by omega)
    exact h
  · rfl
theorem colR_some (l : List S31) (gap : Int) : ∃ G e, colR l gap = some (G, e) ∧ G.length ≤ 10000 ∧ ∀ x ∈ G, x.length ≤ 10000 := by
  obtain ⟨e, he, h0⟩ := check_cases l gap
  unfold colR
  rw [he, Option.bind_some]
  split
  · rename_i hz
    obtain ⟨hl, _⟩ := h0 hz
    obtain ⟨a, b⟩ := cols_bound l gap (srt l)
    have hsl := srt_len l
    refine ⟨_, _, rfl, by rw [List.length_map]; omega, fun x hx => ?_⟩
    obtain ⟨g, hg, rfl⟩ := List.mem_map.1 hx
    have := b g hg
    rw [P.isort_length]
    omega
  · exact ⟨_, _, rfl, by simp, by simp⟩
theorem columns_true (l : List S31) (gap : Int) : barscanlaw50_ReadorderColumns.f 1000000 l gap = some true := by
  obtain ⟨b, hb, hf⟩ := few_f l
  obtain ⟨G, e, hG, hl, hx⟩ := colR_some l gap
  unfold barscanlaw50_ReadorderColumns.f
  rw [hb, Option.bind_some]
  cases b
  · rfl
  · rw [if_pos rfl, columns_f, rcolumns_f l gap (hf rfl), hG, Option.bind_some, Option.bind_some, lists_refl G 1000000 10000 (by omega) (by omega) hx (by omega), Option.bind_some, if_pos rfl, if_pos rfl]
    rfl
end Go.Proofs.Ytdkiembkigadkaa.M
