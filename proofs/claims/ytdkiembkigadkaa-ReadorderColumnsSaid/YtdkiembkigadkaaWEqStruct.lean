/- Words of the kit's print for this seat, those alone that this claim's texts reach. -/
import Derived.Test.YtdkiembkigadkaaWWords
import Derived.Laws.StructEq
namespace Go.Proofs.YtdkiembkigadkaaW.PrintWords
open Go.RowKit
section
variable {P : Program} {d : Nat} {xs ys : Array Value} {f : Field} {fs : List Field} {a b : Value} {r s : Bool} {w : World}
end
end Go.Proofs.YtdkiembkigadkaaW.PrintWords
