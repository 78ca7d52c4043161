/- Sort and Before against their reference: the law. -/
import Derived.Test.YtdkiembkigadkaaPCom
import Derived.Test.YtdkiembkigadkaaPPerm
import Derived.Test.YtdkiembkigadkaaMx15
set_option linter.unusedSimpArgs false
set_option linter.unusedVariables false
namespace Go.Proofs.Ytdkiembkigadkaa.M
open Go.RowKit Go.Proofs.YtdkiembkigadkaaW.PrintLast Go.Proofs.YtdkiembkigadkaaW.PrintWords Go.Proofs.YtdkiembkigadkaaW.PrintMore
theorem refBefore_f (a b : S31) (k : Nat) : barscanref50_Before.f (k + 1) a.f0 a.f1 a.f2 a.f3 b.f0 b.f1 b.f2 b.f3 = some (vldB a && (vldB b && bfB a b)) := by
  unfold barscanref50_Before.f
  rw [refValid_f, refValid_f, Option.bind_some, Option.bind_some]
  cases ha : vldB a
  · rfl
  cases hb : vldB b
  · rfl
  simp only [if_true, Bool.true_and]
  unfold barscanref50_Before.j0 bfB readorder_before.f
  simp only [Bool.not_true, Bool.false_eq_true, if_false]
  repeat' split
  all_goals first | rfl | (simp only [Option.getD_some, Option.some.injEq, decide_eq_decide, eq_comm (a := true), eq_comm (a := false), decide_eq_true_iff, decide_eq_false_iff_not]; omega)
section
variable {l : List S31} {tk : List Nat} {taken : List Bool}
theorem first_l0 (hv : ∀ b ∈ l, vldB b = true) (hn : l.length ≤ 10000) (ht : taken.length = l.length) (hk' : ∀ j, taken.getD j false = decide (j ∈ tk)) (i : Nat) (hi : i < l.length) :
    ∀ (m j k : Nat), j + m = l.length → m + 1 < k → ∃ b, barscanref50_first.l0 k l taken (i : Int) (j : Int) = some b ∧ (b = true ↔ ∀ q, j ≤ q → q < l.length → q ∉ tk → bfN l q i = false) := by
  intro m
  induction m with
  | zero =>
    intro j k hj hk
    match k, hk with
    | k + 1, _ =>
      unfold barscanref50_first.l0
      rw [if_neg (by omega)]
      exact ⟨true, rfl, by simp only [true_iff]; intro q h1 h2; omega⟩
  | succ m ih =>
    intro j k hj hk
    match k, hk with
    | k + 2, hk =>
      have hvr : ∀ q, q < l.length → vldB (rd_T31 l (q : Int)) = true := by
        intro q hq
        have hr : rd_T31 l (q : Int) = l[q] := by unfold rd_T31; simp [hq]
        rw [hr]
        exact hv _ (List.getElem_mem hq)
      unfold barscanref50_first.l0
      have e : rdOf false taken (j : Int) = decide (j ∈ tk) := by unfold rdOf; rw [Int.toNat_natCast]; exact hk' j
      rw [if_pos (by omega), if_pos (by omega), if_pos (by omega), e, step_i (by omega)]
      obtain ⟨b, hb, hbi⟩ := ih (j + 1) (k + 1) (by omega) (by omega)
      by_cases hm : j ∈ tk
      · rw [if_pos (by simpa using hm)]
        refine ⟨b, hb, hbi.trans ⟨fun h q h1 h2 h3 => ?_, fun h q h1 h2 h3 => h q (by omega) h2 h3⟩⟩
        by_cases hq : q = j
        · subst hq; exact absurd hm h3
        · exact h q (by omega) h2 h3
      · rw [if_neg (by simpa using hm), if_pos (by omega), if_pos (by omega), refBefore_f, hvr j (by omega), hvr i hi, Option.bind_some, Bool.true_and, Bool.true_and]
        have ebf : bfB (rd_T31 l (j : Int)) (rd_T31 l (i : Int)) = bfN l j i := rfl
        rw [ebf]
        cases hbf : bfN l j i
        · rw [if_neg (by simp)]
          refine ⟨b, hb, hbi.trans ⟨fun h q h1 h2 h3 => ?_, fun h q h1 h2 h3 => h q (by omega) h2 h3⟩⟩
          by_cases hq : q = j
          · subst hq; exact hbf
          · exact h q (by omega) h2 h3
        · rw [if_pos rfl]
          refine ⟨false, rfl, ⟨fun h => (by cases h), fun h => ?_⟩⟩
          have := h j (Nat.le_refl _) (by omega) hm
          rw [hbf] at this
          cases this
theorem first_f (hv : ∀ b ∈ l, vldB b = true) (hn : l.length ≤ 10000) (ht : taken.length = l.length) (hk' : ∀ j, taken.getD j false = decide (j ∈ tk)) (i : Nat) (hi : i < l.length) (him : i ∉ tk) (k : Nat) (hk : l.length + 1 < k) :
    barscanref50_first.f k l taken (i : Int) = some (P.free l.length (bfN l) tk i) := by
  obtain ⟨b, hb, hbi⟩ := first_l0 hv hn ht hk' i hi l.length 0 k (by omega) hk
  have : b = P.free l.length (bfN l) tk i := by
    rw [Bool.eq_iff_iff, hbi, P.free_iff]
    exact ⟨fun h => ⟨him, fun q h2 h3 => h q (by omega) h2 h3⟩, fun h q _ h2 h3 => h.2 q h2 h3⟩
  rw [← this]
  exact hb
def encO : Option Nat → Int
  | none => -1
  | some i => (i : Int)
/-- the least free number that is c or more -/
def lst (n : Nat) (bf : Nat → Nat → Bool) (tk : List Nat) (c : Nat) : Option Nat → Prop
  | none => ∀ j, c ≤ j → j < n → P.free n bf tk j = false
  | some i => i < n ∧ c ≤ i ∧ P.free n bf tk i = true ∧ ∀ j, c ≤ j → j < i → P.free n bf tk j = false
theorem lst_next {n : Nat} {bf : Nat → Nat → Bool} {tk : List Nat} {o : Option Nat} (h : lst n bf tk 0 o) : P.next n bf tk = o := by
  unfold P.next
  cases o with
  | none =>
    rw [List.find?_range_eq_none]
    intro j hj
    rw [h j (Nat.zero_le _) hj]
    rfl
  | some i =>
    rw [List.find?_range_eq_some]
    refine ⟨h.2.2.1, List.mem_range.2 h.1, fun j hj => ?_⟩
    rw [h.2.2.2 j (Nat.zero_le _) hj]
    rfl
theorem rsort_l1 (hv : ∀ b ∈ l, vldB b = true) (hn : l.length ≤ 10000) (ht : taken.length = l.length) (hk' : ∀ j, taken.getD j false = decide (j ∈ tk)) (out : List Int) (F : Nat) (R : Option (List Int × Int))
    (hR : ∀ k o, F < k → P.next l.length (bfN l) tk = o → (if encO o < 0 then some (([] : List Int), (31 : Int)) else (if 0 ≤ encO o then (if encO o < (taken.length : Int) then (if out.length < 17592186044416 then (barscanref50_Sort.l0 k l (taken.set (encO o).toNat true) (out ++ [encO o])) else none) else none) else none)) = R) :
    ∀ (c k : Nat) (o : Option Nat), c ≤ l.length → lst l.length (bfN l) tk c o → c + l.length + 2 + F < k → barscanref50_Sort.l1 k l taken out (encO o) ((c : Int) - 1) = R := by
  intro c
  induction c with
  | zero =>
    intro k o hc ho hk
    match k, hk with
    | k + 1, hk =>
      unfold barscanref50_Sort.l1
      rw [if_neg (by omega)]
      exact hR k o (by omega) (lst_next ho)
  | succ c ih =>
    intro k o hc ho hk
    match k, hk with
    | k + 1, hk =>
      have e1 : ((c + 1 : Nat) : Int) - 1 = (c : Int) := by omega
      have e2 : wrap64 ((c : Int) - 1) = (c : Int) - 1 := by unfold wrap64; omega
      have e : rdOf false taken (c : Int) = decide (c ∈ tk) := by unfold rdOf; rw [Int.toNat_natCast]; exact hk' c
      unfold barscanref50_Sort.l1
      rw [e1, if_pos (by omega), if_pos (by omega), if_pos (by omega), e, e2]
      have step : P.free l.length (bfN l) tk c = false → lst l.length (bfN l) tk c o := by
        intro hf
        cases o with
        | none =>
          intro j h1 h2
          by_cases hj : j = c
          · subst hj; exact hf
          · exact ho j (by omega) h2
        | some i =>
          obtain ⟨a1, a2, a3, a4⟩ := ho
          refine ⟨a1, by omega, a3, fun j h1 h2 => ?_⟩
          by_cases hj : j = c
          · subst hj; exact hf
          · exact a4 j (by omega) h2
      by_cases hm : c ∈ tk
      · rw [if_pos (by simpa using hm)]
        refine ih k o (by omega) (step ?_) (by omega)
        unfold P.free
        simp [hm]
      · rw [if_neg (by simpa using hm), first_f hv hn ht hk' c (by omega) hm k (by omega), Option.bind_some]
        cases hf : P.free l.length (bfN l) tk c
        · rw [if_neg (by simp)]
          exact ih k o (by omega) (step hf) (by omega)
        · rw [if_pos rfl]
          refine ih k (some c) (by omega) ⟨by omega, Nat.le_refl _, hf, fun j h1 h2 => by omega⟩ (by omega)
theorem rsort_l0 (hv : ∀ b ∈ l, vldB b = true) (hn : l.length ≤ 10000) : ∀ (m k : Nat) (tk : List Nat) (taken : List Bool), tk.length + m = l.length → taken.length = l.length → (∀ j, taken.getD j false = decide (j ∈ tk)) → m * (2 * l.length + 4) < k →
    barscanref50_Sort.l0 k l taken (castL tk) = some (sres (P.run l.length (bfN l) m tk), serr (P.run l.length (bfN l) m tk)) := by
  intro m
  induction m with
  | zero =>
    intro k tk taken hm ht hk' hk
    match k, hk with
    | k + 1, _ =>
      unfold barscanref50_Sort.l0
      rw [if_neg (by rw [castL_length]; omega)]
      rfl
  | succ m ih =>
    intro k tk taken hm ht hk' hk
    rw [Nat.succ_mul] at hk
    match k, hk with
    | k + 1, hk =>
      unfold barscanref50_Sort.l0
      rw [if_pos (by rw [castL_length]; omega), show wrap64 ((l.length : Int) - 1) = (l.length : Int) - 1 by unfold wrap64; omega]
      refine rsort_l1 hv hn ht hk' (castL tk) (m * (2 * l.length + 4)) _ ?_ l.length k none (Nat.le_refl _) (fun j h1 h2 => by omega) (by omega)
      intro k o hF ho
      cases o with
      | none => rw [P.run, ho]; rfl
      | some i =>
        obtain ⟨h1, h2, _⟩ := P.next_some ho
        have him := (P.free_iff.1 h2).1
        show (if (i : Int) < 0 then _ else _) = _
        rw [if_neg (by omega)]
        show (if 0 ≤ (i : Int) then if (i : Int) < (taken.length : Int) then _ else _ else _) = _
        rw [if_pos (by omega), if_pos (by omega), if_pos (by rw [castL_length]; omega), P.run, ho, Option.bind_some]
        have h := ih k (tk ++ [i]) (taken.set i true) (by rw [List.length_append, List.length_singleton]; omega) (by simp [ht]) (fun j => by
          by_cases hj : j = i
          · subst hj
            simp [List.getD, List.getElem?_set, ht, h1]
          · rw [getD_set _ _ _ _ _ (fun h => hj h.symm), hk' j]
            simp [hj]) hF
        rw [show castL (tk ++ [i]) = castL tk ++ [(i : Int)] by unfold castL; simp] at h
        exact h
end
theorem rsort_f (l : List S31) (hl : l.length ≤ 60 ∨ 4096 < l.length) : barscanref50_Sort.f 100000 l = sortR.f l := by
  obtain ⟨e, he, h0⟩ := check_cases l 0
  unfold barscanref50_Sort.f sortR.f
  rw [refcheck_f l 0 100000 (by omega), he, Option.bind_some, Option.bind_some]
  split
  · rename_i hz
    obtain ⟨hl', _, _, hv⟩ := h0 hz
    have hn : l.length ≤ 60 := by omega
    rw [if_pos (by omega), Int.toNat_natCast, if_pos (by omega)]
    have h := rsort_l0 hv (by omega) l.length 100000 [] (List.replicate l.length false) (by simp) (by simp) (fun j => by simp [List.getD, List.getElem?_replicate]; split <;> rfl) (by
      have : l.length * (2 * l.length + 4) ≤ 60 * 124 := Nat.mul_le_mul hn (by omega)
      omega)
    exact h
  · rfl
theorem sorts_l0 (l : List S31) (x3 x5 : List Int) (x4 x6 : Int) (h35 : x3 = x5) (h46 : x4 = x6) (hx : x3.length < 1000000) : ∀ (m i k : Nat), i + m = l.length → i ≤ 61 → 61 - i + x3.length + 4 < k →
    barscanlaw50_ReadorderSorts.l0 k l x3 x4 x5 x6 (l.length : Int) (i : Int) = some true := by
  subst h35 h46
  intro m
  induction m with
  | zero =>
    intro i k hi h61 hk
    match k, hk with
    | k + 1, hk =>
      unfold barscanlaw50_ReadorderSorts.l0
      rw [if_neg (by omega), ints_refl x3 k hx (by omega), Option.bind_some, if_pos rfl, if_pos rfl]
      rfl
  | succ m ih =>
    intro i k hi h61 hk
    match k, hk with
    | k + 2, hk =>
      unfold barscanlaw50_ReadorderSorts.l0
      rw [if_pos (by omega)]
      split
      · rw [ints_refl x3 (k + 1) hx (by omega), Option.bind_some, if_pos rfl, if_pos rfl]
        rfl
      · rename_i hq
        rw [if_pos (by omega), if_pos (by omega), if_pos (by omega), Before_f, Option.bind_some, refBefore_f, Option.bind_some, if_neg (by simp), Before_f, Option.bind_some, refBefore_f, Option.bind_some, if_neg (by simp), step_i (by omega)]
        exact ih (i + 1) (k + 1) (by omega) (by omega) (by omega)
theorem sortR_some (l : List S31) : ∃ r e, sortR.f l = some (r, e) ∧ r.length ≤ 10000 := by
  obtain ⟨e, he, h0⟩ := check_cases l 0
  unfold sortR.f
  rw [he, Option.bind_some]
  split
  · rename_i hz
    obtain ⟨hl, _⟩ := h0 hz
    refine ⟨_, _, rfl, ?_⟩
    cases hs : P.sortF l.length (bfN l) with
    | none => simp [sres]
    | some r =>
      obtain ⟨h1, _⟩ := P.sortF_ord hs
      simp only [sres, List.length_map]
      omega
  · exact ⟨_, _, rfl, by simp⟩
theorem sorts_true (l : List S31) : barscanlaw50_ReadorderSorts.f 100000 l = some true := by
  obtain ⟨b, hb, hf⟩ := few_f l
  obtain ⟨r, e, hr, hl⟩ := sortR_some l
  unfold barscanlaw50_ReadorderSorts.f
  rw [hb, Option.bind_some]
  cases b
  · rfl
  · rw [if_pos rfl, rsort_f l (hf rfl), hr, Option.bind_some, Option.bind_some]
    exact sorts_l0 l r r e e rfl rfl (by omega) l.length 0 100000 (by omega) (by omega) (by omega)
end Go.Proofs.Ytdkiembkigadkaa.M
