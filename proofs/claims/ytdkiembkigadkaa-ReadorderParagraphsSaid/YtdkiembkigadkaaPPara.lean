/- Paragraphs against its reference: the law. -/
import Derived.Test.YtdkiembkigadkaaPCom
import Derived.Test.YtdkiembkigadkaaMx12
set_option linter.unusedSimpArgs false
set_option linter.unusedVariables false
namespace Go.Proofs.Ytdkiembkigadkaa.M
open Go.RowKit Go.Proofs.YtdkiembkigadkaaW.PrintLast Go.Proofs.YtdkiembkigadkaaW.PrintWords Go.Proofs.YtdkiembkigadkaaW.PrintMore
/-- the paragraphs, told plainly: those that are shut, the open one, how low it reaches, what is to come -/
def pf (l : List S31) (gap : Int) (out : List (List Int)) (now : List Int) (low : Int) : List Int → List (List Int)
  | [] => out ++ [now]
  | x :: s => if (rd_T31 l x).f1 > wrap64 (low + gap) then pf l gap (out ++ [now]) [x] (mx (wrap64 ((rd_T31 l x).f1 + (rd_T31 l x).f3)) (wrap64 ((rd_T31 l x).f1 + (rd_T31 l x).f3))) s
    else pf l gap out (now ++ [x]) (mx low (wrap64 ((rd_T31 l x).f1 + (rd_T31 l x).f3))) s
def para (l : List S31) (gap : Int) : List Int → List (List Int)
  | [] => []
  | x :: s => pf l gap [] [x] (mx (wrap64 ((rd_T31 l x).f1 + (rd_T31 l x).f3)) (wrap64 ((rd_T31 l x).f1 + (rd_T31 l x).f3))) s
theorem last_snoc {α : Type} (out : List (List α)) (now : List α) (h : out.length < 1000000) : wrap64 (((out ++ [now]).length : Int) - 1) = (out.length : Int) := by
  rw [List.length_append, List.length_singleton]
  unfold wrap64
  omega
theorem rd_snoc (out : List (List Int)) (now : List Int) : rd_L3 (out ++ [now]) (out.length : Int) = now := by
  unfold rd_L3
  simp [List.getD]
theorem set_snoc {α : Type} (out : List α) (now x : α) : (out ++ [now]).set out.length x = out ++ [x] := by
  simp
section
variable {l : List S31} {gap : Int} {T : List Int}
theorem para_l0 (hT : ∀ x ∈ T, 0 ≤ x ∧ x < (l.length : Int)) (hn : T.length ≤ 10000) : ∀ (m i k : Nat) (out : List (List Int)) (now : List Int) (low : Int), i + m = T.length → m < k → out.length + now.length + 2 * m ≤ 100000 →
    readorder_Paragraphs.l0 k l gap (out ++ [now]) low T (T.length : Int) (i : Int) = some (pf l gap out now low (T.drop i), 0) := by
  intro m
  induction m with
  | zero =>
    intro i k out now low hi hk hb
    match k, hk with
    | k + 1, _ =>
      unfold readorder_Paragraphs.l0
      rw [if_neg (by omega), List.drop_of_length_le (by omega), pf]
  | succ m ih =>
    intro i k out now low hi hk hb
    match k, hk with
    | k + 1, hk =>
      have hir : i < T.length := by omega
      have hr : rd T (i : Int) = T[i] := by unfold rd; simp [hir]
      have hm := hT T[i] (List.getElem_mem hir)
      unfold readorder_Paragraphs.l0
      rw [if_pos (by omega), if_pos (by omega), if_pos (by omega), hr, if_pos hm.1, if_pos hm.2, if_neg (by simp only [List.length_append, List.length_singleton]; omega), List.drop_eq_getElem_cons hir, pf]
      split
      · rename_i hq
        rw [if_pos (by simp only [List.length_append, List.length_singleton]; omega), Option.bind_some, last_snoc _ _ (by simp only [List.length_append, List.length_singleton]; omega), if_pos (by omega), if_pos (by simp only [List.length_append, List.length_singleton]; omega), rd_snoc,
          if_pos (by rw [List.length_nil]; omega), Int.toNat_natCast, set_snoc, step_i (by omega), List.nil_append]
        exact ih (i + 1) k (out ++ [now]) [T[i]] _ (by omega) (by omega) (by simp only [List.length_append, List.length_singleton]; omega)
      · rename_i hq
        rw [last_snoc _ _ (by omega), if_pos (by omega), if_pos (by simp only [List.length_append, List.length_singleton]; omega), rd_snoc, if_pos (by omega), Int.toNat_natCast, set_snoc, step_i (by omega)]
        exact ih (i + 1) k out (now ++ [T[i]]) _ (by omega) (by omega) (by simp only [List.length_append, List.length_singleton]; omega)
theorem para_all (hT : ∀ x ∈ T, 0 ≤ x ∧ x < (l.length : Int)) (hn : T.length ≤ 10000) (k : Nat) (hk : T.length < k) : readorder_Paragraphs.l0 k l gap [] 0 T (T.length : Int) 0 = some (para l gap T, 0) := by
  match k, hk with
  | k + 1, hk =>
    cases hT' : T with
    | nil => unfold readorder_Paragraphs.l0; rfl
    | cons x s =>
      rw [← hT']
      have hir : 0 < T.length := by rw [hT']; simp
      have hr : rd T 0 = x := by rw [hT']; rfl
      have hm := hT x (by rw [hT']; simp)
      have e0 : wrap64 ((([[]] : List (List Int)).length : Int) - 1) = 0 := last_snoc ([] : List (List Int)) [] (by simp)
      unfold readorder_Paragraphs.l0
      rw [if_pos (by omega), if_pos (by omega), if_pos (by omega), hr, if_pos hm.1, if_pos hm.2, if_pos (by rfl), if_pos (by rw [List.length_nil]; omega), Option.bind_some, List.nil_append, e0, if_pos (by decide), if_pos (by decide), if_pos (by decide)]
      have h := para_l0 hT hn (T.length - 1) 1 k [] [x] (mx (wrap64 ((rd_T31 l x).f1 + (rd_T31 l x).f3)) (wrap64 ((rd_T31 l x).f1 + (rd_T31 l x).f3))) (by omega) (by omega) (by simp; omega) (gap := gap)
      have hd : T.drop 1 = s := by rw [hT']; rfl
      have hp : para l gap T = pf l gap [] [x] (mx (wrap64 ((rd_T31 l x).f1 + (rd_T31 l x).f3)) (wrap64 ((rd_T31 l x).f1 + (rd_T31 l x).f3))) s := by rw [hT']; rfl
      have e1 : wrap64 (0 + 1) = ((1 : Nat) : Int) := step_i (i := 0) (by omega)
      rw [hd] at h
      rw [hp, e1]
      exact h
theorem rpara_l1 (hT : ∀ x ∈ T, 0 ≤ x ∧ x < (l.length : Int)) (hn : T.length ≤ 10000) : ∀ (m i k : Nat) (out : List (List Int)) (now : List Int) (low : Int), 0 < i → now ≠ [] → i + m = T.length → 2 * m + out.length + m + 2 < k → out.length + now.length + m ≤ 100000 →
    barscanref50_Paragraphs.l1 k l gap T (out.map S61.mk) now low (i : Int) = some (pf l gap out now low (T.drop i), 0) := by
  intro m
  induction m with
  | zero =>
    intro i k out now low hi0 hne hi hk hb
    have hne' : 0 < now.length := List.length_pos_iff.2 hne
    match k, hk with
    | k + 1, hk =>
      unfold barscanref50_Paragraphs.l1
      rw [if_neg (by omega), List.drop_of_length_le (by omega), pf, if_pos (by omega), if_pos (by rw [List.length_map]; omega)]
      have h := reflists_f (out ++ [now]) (by simp only [List.length_append, List.length_singleton]; omega) k (by simp only [List.length_append, List.length_singleton]; omega)
      rw [List.map_append] at h
      rw [show [(⟨now⟩ : S61)] = [now].map S61.mk from rfl, h]
      rfl
  | succ m ih =>
    intro i k out now low hi0 hne hi hk hb
    have hne' : 0 < now.length := List.length_pos_iff.2 hne
    match k, hk with
    | k + 2, hk =>
      have hir : i < T.length := by omega
      have hr : rd T (i : Int) = T[i] := by unfold rd; simp [hir]
      have hm := hT T[i] (List.getElem_mem hir)
      unfold barscanref50_Paragraphs.l1
      rw [if_pos (by omega), if_pos (by omega), hr, if_pos hm.1, if_pos hm.2, if_pos (by omega), List.drop_eq_getElem_cons hir, pf]
      unfold barscanref50_Paragraphs.j2
      by_cases hq : (rd_T31 l T[i]).f1 > wrap64 (low + gap)
      · rw [if_pos hq, if_pos (by simpa using hq), if_pos (by rw [List.length_map]; omega), Option.bind_some, if_pos (by rfl), if_pos (by omega), if_pos (by omega), if_pos (by decide), hr, step_i (by omega), List.nil_append]
        have h := ih (i + 1) k (out ++ [now]) [T[i]] (mx (wrap64 ((rd_T31 l T[i]).f1 + (rd_T31 l T[i]).f3)) (wrap64 ((rd_T31 l T[i]).f1 + (rd_T31 l T[i]).f3))) (by omega) (by simp) (by omega) (by simp only [List.length_append, List.length_singleton]; omega) (by simp only [List.length_append, List.length_singleton]; omega)
        rw [List.map_append] at h
        exact h
      · rw [if_neg hq, if_neg (by simpa using hq), if_neg (by omega), if_pos (by omega), if_pos (by omega), if_pos (by omega), hr, step_i (by omega)]
        exact ih (i + 1) k out (now ++ [T[i]]) _ (by omega) (by simp) (by omega) (by omega) (by simp only [List.length_append, List.length_singleton]; omega)
theorem rpara_all (hT : ∀ x ∈ T, 0 ≤ x ∧ x < (l.length : Int)) (hn : T.length ≤ 10000) (k : Nat) (hk : 4 * T.length + 10 < k) : barscanref50_Paragraphs.l1 k l gap T [] [] 0 0 = some (para l gap T, 0) := by
  match k, hk with
  | k + 2, hk =>
    cases hT' : T with
    | nil =>
      unfold barscanref50_Paragraphs.l1
      rw [if_neg (by decide), if_neg (by decide)]
      have h := reflists_f [] (by decide) (k + 1) (by simp)
      rw [List.map_nil] at h
      rw [h]
      rfl
    | cons x s =>
      rw [← hT']
      have hir : 0 < T.length := by rw [hT']; simp
      have hr : rd T 0 = x := by rw [hT']; rfl
      have hm := hT x (by rw [hT']; simp)
      unfold barscanref50_Paragraphs.l1
      rw [if_pos (by omega), if_pos (by omega), hr, if_pos hm.1, if_pos hm.2, if_neg (by omega)]
      unfold barscanref50_Paragraphs.j2
      rw [if_neg (by decide), if_pos (by rfl), if_pos (by omega), if_pos (by omega), if_pos (by decide), hr, List.nil_append]
      have h := rpara_l1 hT hn (T.length - 1) 1 k [] [x] (mx (wrap64 ((rd_T31 l x).f1 + (rd_T31 l x).f3)) (wrap64 ((rd_T31 l x).f1 + (rd_T31 l x).f3))) (by omega) (by simp) (by omega) (by simp; omega) (by simp; omega) (gap := gap)
      have hd : T.drop 1 = s := by rw [hT']; rfl
      have hp : para l gap T = pf l gap [] [x] (mx (wrap64 ((rd_T31 l x).f1 + (rd_T31 l x).f3)) (wrap64 ((rd_T31 l x).f1 + (rd_T31 l x).f3))) s := by rw [hT']; rfl
      have e1 : wrap64 (0 + 1) = ((1 : Nat) : Int) := step_i (i := 0) (by omega)
      rw [hd] at h
      rw [hp, e1]
      exact h
end
theorem iota_succ (n : Nat) : iota (n + 1) = iota n ++ [(n : Int)] := by
  unfold iota
  rw [List.range_succ, List.map_append]
  rfl
theorem isort_snoc (ab : Int → Int → Bool) (l : List Int) (x : Int) : P.isort ab (l ++ [x]) = P.ins ab x (P.isort ab l) := by
  unfold P.isort
  rw [List.foldl_append]
  rfl
theorem rpara_l0 (l : List S31) (gap : Int) (hn : l.length ≤ 10000) : ∀ (m i k : Nat), i + m = l.length → m + 4 * l.length + 12 < k →
    barscanref50_Paragraphs.l0 k l gap (P.isort (P.abv (boxY l) (boxX l)) (iota i)) (i : Int) = some (para l gap (P.isort (P.abv (boxY l) (boxX l)) (iota l.length)), 0) := by
  have hmem : ∀ i, i ≤ l.length → ∀ x ∈ P.isort (P.abv (boxY l) (boxX l)) (iota i), 0 ≤ x ∧ x < (l.length : Int) := by
    intro i hi x hx
    rw [P.mem_isort, mem_iota] at hx
    omega
  intro m
  induction m with
  | zero =>
    intro i k hi hk
    match k, hk with
    | k + 1, hk =>
      have e : i = l.length := by omega
      subst e
      unfold barscanref50_Paragraphs.l0
      rw [if_neg (by omega)]
      exact rpara_all (hmem _ (Nat.le_refl _)) (by rw [P.isort_length, iota_length]; exact hn) k (by rw [P.isort_length, iota_length]; omega)
  | succ m ih =>
    intro i k hi hk
    match k, hk with
    | k + 1, hk =>
      unfold barscanref50_Paragraphs.l0
      rw [if_pos (by omega), insert_f l (i : Int) (by omega) (by omega) _ (hmem i (by omega)) (by rw [P.isort_length, iota_length]; omega) k (by rw [P.isort_length, iota_length]; omega), Option.bind_some, step_i (by omega), ← isort_snoc, ← iota_succ]
      exact ih (i + 1) k (by omega) (by omega)
theorem all_fk (n k : Nat) (hn : n ≤ 100000000) (hk : n < k) : readorder_all.f k (n : Int) = some (iota n) := by
  unfold readorder_all.f
  rw [if_pos (by omega), Int.toNat_natCast, if_pos (by omega), Option.bind_some, List.length_replicate]
  exact all_l0 n hn k 0 _ (by simp) (by omega) (by omega) rfl
theorem downw_iota (l : List S31) (hn : l.length ≤ 10000) : downw.f l (iota l.length) = some (P.isort (P.abv (boxY l) (boxX l)) (iota l.length)) := by
  unfold downw.f
  rw [if_pos]
  rw [iota_length, inR_iff]
  exact ⟨by omega, fun x hx => mem_iota.1 hx⟩
/-- both answers -/
def paraR (l : List S31) (gap : Int) : Option (List (List Int) × Int) := (check.f l gap).bind fun e => if e = 0 then some (para l gap (P.isort (P.abv (boxY l) (boxX l)) (iota l.length)), 0) else some ([], e)
theorem check_long {l : List S31} {gap : Int} (h : 4096 < l.length) : check.f l gap = some 4 := by
  unfold check.f
  rw [if_pos h]
theorem check_cases (l : List S31) (gap : Int) : ∃ e, check.f l gap = some e ∧ (e = 0 → l.length ≤ 4096 ∧ 0 ≤ gap ∧ gap ≤ 4096 ∧ ∀ b ∈ l, vldB b = true) := by
  unfold check.f
  refine ⟨_, rfl, ?_⟩
  split
  · intro h; cases h
  split
  · intro h; cases h
  rename_i h1 h2
  split
  · intro h; cases h
  split
  · intro h; cases h
  intro _
  refine ⟨by omega, by omega, by omega, fun b hb => ?_⟩
  simp only [List.any_eq_true, not_exists, not_and] at h2
  have := h2 b hb
  simpa using this
theorem para_f (l : List S31) (gap : Int) (k : Nat) (hk : 100000 ≤ k) : readorder_Paragraphs.f k l gap = paraR l gap := by
  obtain ⟨e, he, h0⟩ := check_cases l gap
  unfold readorder_Paragraphs.f paraR
  rw [he, Option.bind_some, Option.bind_some]
  split
  · rename_i hz
    obtain ⟨hl, _⟩ := h0 hz
    rw [all_fk l.length k (by omega) (by omega), Option.bind_some, downw_iota l (by omega), Option.bind_some]
    refine para_all (fun x hx => ?_) ?_ k ?_
    · rw [P.mem_isort, mem_iota] at hx
      omega
    · rw [P.isort_length, iota_length]; omega
    · rw [P.isort_length, iota_length]; omega
  · rfl
theorem rpara_f (l : List S31) (gap : Int) (k : Nat) (hk : 100000 ≤ k) : barscanref50_Paragraphs.f k l gap = paraR l gap := by
  obtain ⟨e, he, h0⟩ := check_cases l gap
  unfold barscanref50_Paragraphs.f paraR
  rw [refcheck_f l gap k (by omega), he, Option.bind_some, Option.bind_some]
  split
  · rename_i hz
    obtain ⟨hl, _⟩ := h0 hz
    exact rpara_l0 l gap (by omega) l.length 0 k (by omega) (by omega)
  · rfl
theorem pf_bound (l : List S31) (gap : Int) : ∀ (s : List Int) (out : List (List Int)) (now : List Int) (low : Int) (L : Nat), (∀ x ∈ out, x.length ≤ L) → now.length + s.length ≤ L → 1 ≤ L →
    (pf l gap out now low s).length ≤ out.length + 1 + s.length ∧ ∀ x ∈ pf l gap out now low s, x.length ≤ L := by
  intro s
  induction s with
  | nil =>
    intro out now low L h1 h2 _
    rw [pf]
    refine ⟨by simp, fun x hx => ?_⟩
    rcases List.mem_append.1 hx with hx | hx
    · exact h1 x hx
    · rw [List.mem_singleton] at hx; subst hx; exact h2
  | cons y s ih =>
    intro out now low L h1 h2 h3
    rw [List.length_cons] at h2
    rw [pf]
    split
    · obtain ⟨a, b⟩ := ih (out ++ [now]) [y] (mx (wrap64 ((rd_T31 l y).f1 + (rd_T31 l y).f3)) (wrap64 ((rd_T31 l y).f1 + (rd_T31 l y).f3))) L (fun x hx => by
        rcases List.mem_append.1 hx with hx | hx
        · exact h1 x hx
        · rw [List.mem_singleton] at hx; subst hx; omega) (by rw [List.length_singleton]; omega) h3
      exact ⟨by simp only [List.length_append, List.length_singleton, List.length_cons, List.length_nil] at a ⊢; omega, b⟩
    · obtain ⟨a, b⟩ := ih out (now ++ [y]) (mx low (wrap64 ((rd_T31 l y).f1 + (rd_T31 l y).f3))) L h1 (by simp only [List.length_append, List.length_singleton]; omega) h3
      exact ⟨by simp only [List.length_cons] at a ⊢; omega, b⟩
theorem para_bound (l : List S31) (gap : Int) (T : List Int) : (para l gap T).length ≤ T.length + 1 ∧ ∀ x ∈ para l gap T, x.length ≤ T.length + 1 := by
  cases T with
  | nil => exact ⟨by simp [para], fun x hx => by simp [para] at hx⟩
  | cons y s =>
    obtain ⟨a, b⟩ := pf_bound l gap s [] [y] (mx (wrap64 ((rd_T31 l y).f1 + (rd_T31 l y).f3)) (wrap64 ((rd_T31 l y).f1 + (rd_T31 l y).f3))) (s.length + 2) (by simp) (by simp; omega) (by omega)
    rw [para]
    exact ⟨by simp only [List.length_cons, List.length_nil] at a ⊢; omega, fun x hx => by have := b x hx; simp only [List.length_cons]; omega⟩
theorem paraR_some (l : List S31) (gap : Int) : ∃ G e, paraR l gap = some (G, e) ∧ G.length ≤ 10000 ∧ ∀ x ∈ G, x.length ≤ 10000 := by
  obtain ⟨e, he, h0⟩ := check_cases l gap
  unfold paraR
  rw [he, Option.bind_some]
  split
  · rename_i hz
    obtain ⟨hl, _⟩ := h0 hz
    obtain ⟨a, b⟩ := para_bound l gap (P.isort (P.abv (boxY l) (boxX l)) (iota l.length))
    rw [P.isort_length, iota_length] at a b
    exact ⟨_, _, rfl, by omega, fun x hx => by have := b x hx; omega⟩
  · exact ⟨_, _, rfl, by simp, by simp⟩
theorem few_f (l : List S31) : ∃ b, barscanlaw50_few.f l = some b ∧ (b = true → l.length ≤ 60 ∨ 4096 < l.length) := by
  unfold barscanlaw50_few.f
  split
  · exact ⟨_, rfl, fun _ => by omega⟩
  · refine ⟨_, rfl, fun h => ?_⟩
    rw [decide_eq_true_iff] at h
    omega
theorem paragraphs_true (l : List S31) (gap : Int) : barscanlaw50_ReadorderParagraphs.f 100000 l gap = some true := by
  obtain ⟨b, hb, _⟩ := few_f l
  obtain ⟨G, e, hG, hl, hx⟩ := paraR_some l gap
  unfold barscanlaw50_ReadorderParagraphs.f
  rw [hb, Option.bind_some]
  cases b
  · rfl
  · rw [if_pos rfl, para_f l gap 100000 (Nat.le_refl _), rpara_f l gap 100000 (Nat.le_refl _), hG, Option.bind_some, Option.bind_some, lists_refl G 100000 10000 (by omega) (by omega) hx (by omega), Option.bind_some, if_pos rfl, if_pos rfl]
    rfl
end Go.Proofs.Ytdkiembkigadkaa.M
