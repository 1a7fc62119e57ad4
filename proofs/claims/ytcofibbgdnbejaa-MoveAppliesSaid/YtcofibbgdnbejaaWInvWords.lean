/- Those of the words that print.sh printed for this seat that this claim's proofs name; the others are left out. -/
import Derived.Test.YtcofibbgdnbejaaWInv
import Derived.Test.YtcofibbgdnbejaaWFootNe
namespace Go.Proofs.YtcofibbgdnbejaaW.PrintWords
open Go.RowKit
end Go.Proofs.YtcofibbgdnbejaaW.PrintWords
namespace Go.Proofs.YtcofibbgdnbejaaW.PrintLast
section
variable {ops : Array Oper} {a : Act} {o og : Oper} {g : Nat} {t : Tmp} {u : Bool}
end
end Go.Proofs.YtcofibbgdnbejaaW.PrintLast
