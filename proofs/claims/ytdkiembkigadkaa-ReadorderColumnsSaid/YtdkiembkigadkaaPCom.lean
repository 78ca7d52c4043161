/- What the laws share: the check of the reference, lists that are equal, the sorted indexes. -/
import Derived.Test.YtdkiembkigadkaaMx4
import Derived.Test.YtdkiembkigadkaaMx5
import Derived.Test.YtdkiembkigadkaaOrd
import Derived.Test.YtdkiembkigadkaaSortR
set_option linter.unusedSimpArgs false
set_option linter.unusedVariables false
namespace Go.Proofs.Ytdkiembkigadkaa.M
open Go.RowKit Go.Proofs.YtdkiembkigadkaaW.PrintLast Go.Proofs.YtdkiembkigadkaaW.PrintWords Go.Proofs.YtdkiembkigadkaaW.PrintMore
theorem ints_l0 (a : List Int) (ha : a.length < 1000000) : ∀ (m i k : Nat), i + m = a.length → m < k → barscanlaw50_ints.l0 k a a (a.length : Int) (i : Int) = some true := by
  intro m
  induction m with
  | zero =>
    intro i k hi hk
    match k, hk with
    | k + 1, _ => unfold barscanlaw50_ints.l0; rw [if_neg (by omega)]
  | succ m ih =>
    intro i k hi hk
    match k, hk with
    | k + 1, hk =>
      unfold barscanlaw50_ints.l0
      rw [if_pos (by omega), if_pos (by omega), if_pos (by omega), if_pos (by omega), if_pos rfl, step_i (by omega)]
      exact ih (i + 1) k (by omega) (by omega)
theorem ints_refl (a : List Int) (k : Nat) (ha : a.length < 1000000) (hk : a.length < k) : barscanlaw50_ints.f k a a = some true := by
  unfold barscanlaw50_ints.f
  rw [if_pos rfl]
  exact ints_l0 a ha a.length 0 k (by omega) hk
theorem lists_l0 (a : List (List Int)) (ha : a.length < 1000000) (L : Nat) (hL : L < 1000000) (hb : ∀ x ∈ a, x.length ≤ L) : ∀ (m i k : Nat), i + m = a.length → m + L + 1 < k → barscanlaw50_lists.l0 k a a (a.length : Int) (i : Int) = some true := by
  intro m
  induction m with
  | zero =>
    intro i k hi hk
    match k, hk with
    | k + 1, _ => unfold barscanlaw50_lists.l0; rw [if_neg (by omega)]
  | succ m ih =>
    intro i k hi hk
    match k, hk with
    | k + 1, hk =>
      unfold barscanlaw50_lists.l0
      have hr : rd_L3 a (i : Int) ∈ a := by
        unfold rd_L3
        rw [Int.toNat_natCast, List.getD_eq_getElem?_getD, List.getElem?_eq_getElem (by omega), Option.getD_some]
        exact List.getElem_mem _
      have := hb _ hr
      rw [if_pos (by omega), if_pos (by omega), if_pos (by omega), if_pos (by omega), ints_refl _ k (by omega) (by omega), Option.bind_some, if_pos rfl, step_i (by omega)]
      exact ih (i + 1) k (by omega) (by omega)
theorem lists_refl (a : List (List Int)) (k L : Nat) (ha : a.length < 1000000) (hL : L < 1000000) (hb : ∀ x ∈ a, x.length ≤ L) (hk : a.length + L + 1 < k) : barscanlaw50_lists.f k a a = some true := by
  unfold barscanlaw50_lists.f
  rw [if_pos rfl]
  exact lists_l0 a ha L hL hb a.length 0 k (by omega) hk
theorem refValid_f (b : S31) : barscanref50_Valid.f b.f0 b.f1 b.f2 b.f3 = some (vldB b) := valid_f b
theorem refcheck_l0 (l : List S31) (gap : Int) (hl : l.length ≤ 4096) : ∀ (m i k : Nat), i + m = l.length → m < k → barscanref50_check.l0 k l gap (i : Int) = some (if ((l.drop i).any fun b => !vldB b) = true then 3 else if gap < 0 then 3 else if 4096 < gap then 3 else 0) := by
  intro m
  induction m with
  | zero =>
    intro i k hi hk
    match k, hk with
    | k + 1, _ =>
      unfold barscanref50_check.l0
      rw [if_neg (by omega), List.drop_of_length_le (by omega)]
      simp only [List.any_nil, Bool.false_eq_true, if_false, gt_iff_lt]
      split <;> (try split) <;> rfl
  | succ m ih =>
    intro i k hi hk
    match k, hk with
    | k + 1, hk =>
      have hir : i < l.length := by omega
      have hr : rd_T31 l (i : Int) = l[i] := by unfold rd_T31; simp [hir]
      unfold barscanref50_check.l0
      rw [if_pos (by omega), if_pos (by omega), refValid_f, hr, Option.bind_some, List.drop_eq_getElem_cons hir, List.any_cons]
      cases hv : vldB l[i]
      · simp
      · rw [if_pos rfl, step_i (by omega), ih (i + 1) k (by omega) (by omega)]
        simp
theorem refcheck_f (l : List S31) (gap : Int) (k : Nat) (hk : 4096 < k) : barscanref50_check.f k l gap = check.f l gap := by
  unfold barscanref50_check.f check.f
  split
  · rw [if_pos (by omega)]
  · rename_i h
    rw [if_neg (by omega)]
    exact refcheck_l0 l gap (by omega) l.length 0 k (by omega) (by omega)
theorem above_f (l : List S31) (i k : Int) (h0 : 0 ≤ i) (h1 : i < l.length) (h2 : 0 ≤ k) (h3 : k < l.length) : barscanref50_above.f l i k = some (P.abv (boxY l) (boxX l) i k) := by
  unfold barscanref50_above.f P.abv boxY boxX
  rw [if_pos h0, if_pos h1, if_pos h2, if_pos h3]
  split <;> (try split) <;> rfl
theorem insert_l0 (l : List S31) (x : Int) (h0 : 0 ≤ x) (h1 : x < l.length) (s : List Int) (hs : ∀ y ∈ s, 0 ≤ y ∧ y < (l.length : Int)) (hn : s.length < 1000000) :
    ∀ (m i k : Nat), i + m = s.length → m < k → barscanref50_insert.l0 k l s x (i : Int) = some (s.take i ++ P.ins (P.abv (boxY l) (boxX l)) x (s.drop i)) := by
  intro m
  induction m with
  | zero =>
    intro i k hi hk
    match k, hk with
    | k + 1, _ =>
      unfold barscanref50_insert.l0
      have hd : s.drop i = [] := List.drop_of_length_le (by omega)
      have ht : s.take i = s := List.take_of_length_le (by omega)
      rw [if_neg (by omega)]
      simp only [Option.bind_some, List.nil_append, Int.toNat_natCast, hd, ht]
      rw [if_pos (by omega), if_pos (by omega)]
      simp only [List.length_nil, List.length_append, List.length_singleton]
      rw [if_pos (by omega), if_pos (by omega), if_pos (by omega), List.append_nil]
      rfl
  | succ m ih =>
    intro i k hi hk
    match k, hk with
    | k + 1, hk =>
      have hir : i < s.length := by omega
      have hr : rd s (i : Int) = s[i] := by unfold rd; simp [hir]
      have hm := hs s[i] (List.getElem_mem hir)
      unfold barscanref50_insert.l0
      rw [if_pos (by omega), if_pos (by omega), hr, above_f l s[i] x hm.1 hm.2 h0 h1, Option.bind_some, List.drop_eq_getElem_cons hir, P.ins]
      split
      · rw [step_i (by omega), ih (i + 1) k (by omega) (by omega), List.take_succ_eq_append_getElem hir, List.append_assoc]
        rfl
      · simp only [Option.bind_some, List.nil_append, Int.toNat_natCast, List.length_nil, List.length_append, List.length_singleton, List.length_take, List.length_drop]
        rw [if_pos (by omega), if_pos (by omega), if_pos (by omega), if_pos (by omega), ← List.drop_eq_getElem_cons hir, List.append_assoc]
        rfl
theorem insert_f (l : List S31) (x : Int) (h0 : 0 ≤ x) (h1 : x < l.length) (s : List Int) (hs : ∀ y ∈ s, 0 ≤ y ∧ y < (l.length : Int)) (hn : s.length < 1000000) (k : Nat) (hk : s.length < k) :
    barscanref50_insert.f k l s x = some (P.ins (P.abv (boxY l) (boxX l)) x s) := insert_l0 l x h0 h1 s hs hn s.length 0 k (by omega) hk
theorem reflists_l0 (g : List S61) (hg : g.length < 1000000) : ∀ (m i k : Nat), i + m = g.length → m < k → barscanref50_lists.l0 k g ((g.take i).map (·.f0)) (i : Int) = some (g.map (·.f0)) := by
  intro m
  induction m with
  | zero =>
    intro i k hi hk
    match k, hk with
    | k + 1, _ =>
      unfold barscanref50_lists.l0
      rw [if_neg (by omega), List.take_of_length_le (by omega)]
  | succ m ih =>
    intro i k hi hk
    match k, hk with
    | k + 1, hk =>
      have hir : i < g.length := by omega
      have hr : rd_T61 g (i : Int) = g[i] := by unfold rd_T61; simp [hir]
      unfold barscanref50_lists.l0
      rw [if_pos (by omega), if_pos (by omega), if_pos (by rw [List.length_map, List.length_take]; omega), hr, step_i (by omega), ← ih (i + 1) k (by omega) (by omega), List.take_succ_eq_append_getElem hir, List.map_append]
      rfl
theorem reflists_f (g : List (List Int)) (hg : g.length < 1000000) (k : Nat) (hk : g.length < k) : barscanref50_lists.f k (g.map S61.mk) = some g := by
  unfold barscanref50_lists.f
  have h := reflists_l0 (g.map S61.mk) (by simpa using hg) g.length 0 k (by simp) hk
  rw [List.map_map] at h
  simpa [Function.comp_def] using h
theorem check_long {l : List S31} {gap : Int} (h : 4096 < l.length) : check.f l gap = some 4 := by
  unfold check.f
  rw [if_pos h]
theorem check_cases (l : List S31) (gap : Int) : ∃ e, check.f l gap = some e ∧ (e = 0 → l.length ≤ 4096 ∧ 0 ≤ gap ∧ gap ≤ 4096 ∧ ∀ b ∈ l, vldB b = true) := by
  unfold check.f
  refine ⟨_, rfl, ?_⟩
  split
  · intro h; cases h
  split
  · intro h; cases h
  rename_i h1 h2
  split
  · intro h; cases h
  split
  · intro h; cases h
  intro _
  refine ⟨by omega, by omega, by omega, fun b hb => ?_⟩
  simp only [List.any_eq_true, not_exists, not_and] at h2
  have := h2 b hb
  simpa using this
theorem few_f (l : List S31) : ∃ b, barscanlaw50_few.f l = some b ∧ (b = true → l.length ≤ 60 ∨ 4096 < l.length) := by
  unfold barscanlaw50_few.f
  split
  · exact ⟨_, rfl, fun _ => by omega⟩
  · refine ⟨_, rfl, fun h => ?_⟩
    rw [decide_eq_true_iff] at h
    omega
end Go.Proofs.Ytdkiembkigadkaa.M
