/- How many boxes that are left come before a box; the step of the reading order by these numbers. -/
import Derived.Test.YtdkiembkigadkaaPOrd
namespace Go.Proofs.Ytdkiembkigadkaa.P
set_option linter.unusedVariables false
/-- of the first m, how many are left and come before i -/
def cnt (bf : Nat → Nat → Bool) (tk : List Nat) (i : Nat) : Nat → Nat
  | 0 => 0
  | m + 1 => cnt bf tk i m + if decide (m ∉ tk) && bf m i then 1 else 0
section
variable {bf : Nat → Nat → Bool}
theorem cnt_le (tk : List Nat) (i : Nat) : ∀ m, cnt bf tk i m ≤ m
  | 0 => Nat.le_refl _
  | m + 1 => by
    have := cnt_le tk i m
    rw [cnt]
    split <;> omega
theorem cnt_zero (tk : List Nat) (i : Nat) : ∀ m, cnt bf tk i m = 0 ↔ ∀ k, k < m → k ∉ tk → bf k i = false
  | 0 => by simp [cnt]
  | m + 1 => by
    rw [cnt, Nat.add_eq_zero_iff, cnt_zero tk i m]
    constructor
    · rintro ⟨h1, h2⟩ k hk hkt
      by_cases q : k = m
      · subst q
        cases hb : bf k i
        · rfl
        · simp [hkt, hb] at h2
      · exact h1 k (by omega) hkt
    · intro h
      refine ⟨fun k hk => h k (by omega), ?_⟩
      by_cases q : m ∈ tk
      · simp [q]
      · simp [h m (by omega) q]
theorem cnt_snoc (tk : List Nat) (x i : Nat) (hx : x ∉ tk) : ∀ m, cnt bf (tk ++ [x]) i m + (if x < m ∧ bf x i = true then 1 else 0) = cnt bf tk i m
  | 0 => by simp [cnt]
  | m + 1 => by
    have ih := cnt_snoc tk x i hx m
    rw [cnt, cnt, ← ih]
    by_cases q : x = m
    · subst q
      have h1 : ¬ (x < x ∧ bf x i = true) := by omega
      have h2 : x ∈ tk ++ [x] := by simp
      rw [if_neg h1]
      cases hb : bf x i <;> simp [hx, hb]
    · have e : decide (m ∉ tk ++ [x]) = decide (m ∉ tk) := by
        simp [show ¬ m = x from fun h => q h.symm]
      rw [e]
      have e2 : (x < m + 1 ∧ bf x i = true) ↔ (x < m ∧ bf x i = true) := ⟨fun h => ⟨by omega, h.2⟩, fun h => ⟨by omega, h.2⟩⟩
      simp only [e2]
      omega
end
section
variable {n : Nat} {bf : Nat → Nat → Bool}
theorem free_cnt {tk : List Nat} {i : Nat} : free n bf tk i = true ↔ (i ∉ tk ∧ cnt bf tk i n = 0) := by
  rw [free_iff, cnt_zero]
/-- what the program's search finds: the first of the ones that are left, in order, with no box before it -/
theorem next_eq (tk : List Nat) : next n bf tk = ((List.range n).filter fun i => decide (i ∉ tk)).find? fun i => decide (cnt bf tk i n = 0) := by
  unfold next
  rw [List.find?_filter]
  congr 1
  funext i
  rw [Bool.eq_iff_iff, free_cnt]
  simp
end
end Go.Proofs.Ytdkiembkigadkaa.P
