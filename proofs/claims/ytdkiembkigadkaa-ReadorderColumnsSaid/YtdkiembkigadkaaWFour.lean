/- Words of the kit's print for this seat, those alone that this claim's texts reach. -/
import Derived.Test.YtdkiembkigadkaaWTab
namespace Go.Proofs.YtdkiembkigadkaaW.PrintLast
section
variable {P : Program} {ops : Array Oper} {Q : Exit → Act → World → Prop} {md : Region.Mode} {S : World → Prop} {ds : List Nat} {T : Bool × List (List Nat × List Nat)}
end
end Go.Proofs.YtdkiembkigadkaaW.PrintLast
