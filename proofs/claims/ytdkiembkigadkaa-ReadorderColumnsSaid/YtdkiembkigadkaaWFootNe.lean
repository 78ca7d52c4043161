/- Words of the kit's print for this seat, those alone that this claim's texts reach. -/
import Derived.Test.YtdkiembkigadkaaWN
namespace Go.Proofs.YtdkiembkigadkaaW.PrintWords
open Go.RowKit
namespace Kd
section
variable {α : Type} {d : Kd α} {W : World} {g n : Nat} {S ok : Nat → Prop} {A : Option Addr} {ad : Addr} {xs : List α}
end
end Kd
end Go.Proofs.YtdkiembkigadkaaW.PrintWords
