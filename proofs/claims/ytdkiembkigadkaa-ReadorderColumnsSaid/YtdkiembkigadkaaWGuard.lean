/- Words of the kit's print for this seat, those alone that this claim's texts reach. -/
import Derived.Test.YtdkiembkigadkaaWWords
namespace Go.Proofs.YtdkiembkigadkaaW.PrintWords
open Go.RowKit
section
variable {P : Program} {ops : Array Oper} {rest : List Oper} {o : Oper} {a : Act} {Q : Exit → Act → World → Prop} {W : World}
end
end Go.Proofs.YtdkiembkigadkaaW.PrintWords
