/- exampleHolds returns true: its calls, evaluated. -/
import Derived.Test.YtahibhipffojlaaMx7
namespace Go.Proofs.Ytahibhipffojlaa.M
open Go.RowKit Go.Proofs.YtahibhipffojlaaW.PrintWords
def exHolds.f : Option Bool := some true
set_option maxRecDepth 100000 in
theorem exampleHolds0_true : exampleHolds0.f 40 = some true := by kernel_rfl
theorem exHolds.calls (r1 : Bool) (w : World) (h : exHolds.f = some r1) : Calls Try.prog 13 #[] w fun e w' => e = .returned (.bool r1) ∧ Below w.heap.size w w' := by
  injection h with h
  subst h
  exact exampleHolds0.calls 40 w exampleHolds0_true
end Go.Proofs.Ytahibhipffojlaa.M
