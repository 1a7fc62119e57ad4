/- Those of the words that print.sh printed for this seat that this claim's proofs name; the others are left out. -/
import Derived.Test.YtcofibbgdnbejaaWWords
import Derived.Laws.StructEq
/-! ### 53. '==' of structs as_ one Bool -/
namespace Go.Proofs.YtcofibbgdnbejaaW.PrintWords
open Go.RowKit
section
variable {P : Program} {d : Nat} {xs ys : Array Value} {f : Field} {fs : List Field} {a b : Value} {r s : Bool} {w : World}
end
end Go.Proofs.YtcofibbgdnbejaaW.PrintWords
