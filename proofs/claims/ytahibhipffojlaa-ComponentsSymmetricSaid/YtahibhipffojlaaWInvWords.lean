/- Words of the kit's print for this seat, those alone that this claim's texts reach. -/
import Derived.Test.YtahibhipffojlaaWInv
import Derived.Test.YtahibhipffojlaaWFootNe
namespace Go.Proofs.YtahibhipffojlaaW.PrintWords
open Go.RowKit
end Go.Proofs.YtahibhipffojlaaW.PrintWords
namespace Go.Proofs.YtahibhipffojlaaW.PrintLast
section
variable {ops : Array Oper} {a : Act} {o og : Oper} {g : Nat} {t : Tmp} {u : Bool}
end
end Go.Proofs.YtahibhipffojlaaW.PrintLast
