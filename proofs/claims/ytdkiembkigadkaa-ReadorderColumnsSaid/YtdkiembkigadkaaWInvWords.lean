/- Words of the kit's print for this seat, those alone that this claim's texts reach. -/
import Derived.Test.YtdkiembkigadkaaWInv
import Derived.Test.YtdkiembkigadkaaWFootNe
namespace Go.Proofs.YtdkiembkigadkaaW.PrintWords
open Go.RowKit
end Go.Proofs.YtdkiembkigadkaaW.PrintWords
namespace Go.Proofs.YtdkiembkigadkaaW.PrintLast
section
variable {ops : Array Oper} {a : Act} {o og : Oper} {g : Nat} {t : Tmp} {u : Bool}
end
end Go.Proofs.YtdkiembkigadkaaW.PrintLast
