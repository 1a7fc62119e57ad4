/- Those of the words that print.sh printed for this seat that this claim's proofs name; the others are left out. -/
import Derived.Test.YtcofibbgdnbejaaWN
/-! ### 52. A row that stays read whatever happens to a block (a set of blocks) doesn't lie there -/
namespace Go.Proofs.YtcofibbgdnbejaaW.PrintWords
open Go.RowKit
namespace Kd
section
variable {α : Type} {d : Kd α} {W : World} {g n : Nat} {S ok : Nat → Prop} {A : Option Addr} {ad : Addr} {xs : List α}
end
end Kd
end Go.Proofs.YtcofibbgdnbejaaW.PrintWords
