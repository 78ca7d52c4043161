/- The law of the limits, as the row asks it. -/
import Derived.Test.YtahibhipffojlaaPLim
set_option linter.unusedSimpArgs false
set_option linter.unusedVariables false
namespace Go.Proofs.Ytahibhipffojlaa.Pure
open Go.RowKit Go.Proofs.Ytahibhipffojlaa.M Go.Proofs.YtahibhipffojlaaW.PrintWords Go.Proofs.YtahibhipffojlaaW.PrintLast
theorem ComponentsLimits : barscanlaw38_ComponentsLimits.Pure := by
  intro a0 a1 hw
  refine ⟨80000000, P.limits_true a0 a1 ?_ 80000000 (Nat.le_refl _)⟩
  simp [Lit.wf, IntKind.min, IntKind.max, IntKind.bits, IntKind.signed] at hw
  omega
end Go.Proofs.Ytahibhipffojlaa.Pure
