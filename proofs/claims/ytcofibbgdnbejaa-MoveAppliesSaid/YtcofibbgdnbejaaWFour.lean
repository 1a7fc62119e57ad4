/- Those of the words that print.sh printed for this seat that this claim's proofs name; the others are left out. -/
import Derived.Test.YtcofibbgdnbejaaWTab
/-! ### 56. Four, five, six operations that may come up next, in any order -/
namespace Go.Proofs.YtcofibbgdnbejaaW.PrintLast
section
variable {P : Program} {ops : Array Oper} {Q : Exit → Act → World → Prop} {md : Region.Mode} {S : World → Prop} {ds : List Nat} {T : Bool × List (List Nat × List Nat)}
end
end Go.Proofs.YtcofibbgdnbejaaW.PrintLast
