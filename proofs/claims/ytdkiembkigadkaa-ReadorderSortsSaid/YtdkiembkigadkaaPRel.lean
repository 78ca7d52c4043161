/- Before, of any two boxes; the relation's law. -/
import Derived.Test.YtdkiembkigadkaaMx10
set_option linter.unusedSimpArgs false
set_option linter.unusedVariables false
namespace Go.Proofs.Ytdkiembkigadkaa.M
open Go.RowKit
theorem Before_f (a b : S31) : readorder_Before.f a.f0 a.f1 a.f2 a.f3 b.f0 b.f1 b.f2 b.f3 = some (vldB a && (vldB b && bfB a b)) := by
  unfold readorder_Before.f
  simp only [valid_f, before_f, Option.bind_some]
  cases vldB a <;> cases vldB b <;> rfl
theorem lawValid_f (b : S31) : barscanlaw50_valid.f b.f0 b.f1 b.f2 b.f3 = some (vldB b) := valid_f b
theorem vldB_iff {b : S31} : vldB b = true ↔ -4096 ≤ b.f0 ∧ b.f0 ≤ 4096 ∧ -4096 ≤ b.f1 ∧ b.f1 ≤ 4096 ∧ 1 ≤ b.f2 ∧ b.f2 ≤ 4096 ∧ 1 ≤ b.f3 ∧ b.f3 ≤ 4096 := by
  unfold vldB
  exact decide_eq_true_iff
/-- of two valid boxes the one comes before the other -/
def bfP (a b : S31) : Prop := (a.f1 < b.f1 + b.f3 ∧ b.f1 < a.f1 + a.f3 ∧ (a.f0 < b.f0 ∨ (a.f0 = b.f0 ∧ a.f1 < b.f1))) ∨ (¬ (a.f1 < b.f1 + b.f3 ∧ b.f1 < a.f1 + a.f3) ∧ a.f1 < b.f1)
theorem bfB_iff {a b : S31} (ha : vldB a = true) (hb : vldB b = true) : bfB a b = true ↔ bfP a b := by
  rw [vldB_iff] at ha hb
  obtain ⟨a0, a1, a2, a3⟩ := a
  obtain ⟨b0, b1, b2, b3⟩ := b
  unfold bfB readorder_before.f bfP
  simp only at ha hb ⊢
  have e1 : wrap64 (b1 + b3) = b1 + b3 := by unfold wrap64; omega
  have e2 : wrap64 (a1 + a3) = a1 + a3 := by unfold wrap64; omega
  rw [e1, e2]
  repeat' split
  all_goals (simp only [Option.getD_some, decide_eq_true_iff]; omega)
theorem relation_true (a b : S31) : barscanlaw50_ReadorderRelation.f 3 a.f0 a.f1 a.f2 a.f3 b.f0 b.f1 b.f2 b.f3 = some true := by
  unfold barscanlaw50_ReadorderRelation.f
  simp only [Before_f, lawValid_f, Option.bind_some]
  cases ha : vldB a
  · cases hb : vldB b <;> rfl
  cases hb : vldB b
  · rfl
  simp only [Bool.true_and, if_true, Bool.not_true]
  have h1 := bfB_iff ha hb
  have h2 := bfB_iff hb ha
  rw [vldB_iff] at ha hb
  obtain ⟨a0, a1, a2, a3⟩ := a
  obtain ⟨b0, b1, b2, b3⟩ := b
  simp only [bfP] at ha hb h1 h2 ⊢
  have e2 : wrap64 (a1 + a3) = a1 + a3 := by unfold wrap64; omega
  unfold barscanlaw50_ReadorderRelation.j0
  unfold barscanlaw50_ReadorderRelation.j1
  simp only [e2, exHolds.f, Option.bind_some]
  generalize bfB ⟨a0, a1, a2, a3⟩ ⟨b0, b1, b2, b3⟩ = p at *
  generalize bfB ⟨b0, b1, b2, b3⟩ ⟨a0, a1, a2, a3⟩ = q at *
  cases p <;> cases q <;> simp only [true_iff, false_iff, Bool.false_eq_true, if_false, if_true, bne_self_eq_false, reduceCtorEq] at h1 h2 ⊢
  all_goals (repeat' split)
  all_goals first | rfl | (exfalso; simp_all; done) | (exfalso; simp_all; omega) | (simp_all; omega)
end Go.Proofs.Ytdkiembkigadkaa.M
