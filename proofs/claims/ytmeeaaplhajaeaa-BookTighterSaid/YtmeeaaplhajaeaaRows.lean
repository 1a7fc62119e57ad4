/-
  No cell of these rows narrows 'for every input' (looked for: loops, veiled, ifaces, maps, wideKeys, modest, calm, conditions, laid).
  DERIVED. THE GIVEN ROWS OF THIS SEAT. 3 by the template 'for every input the law returns true; each argument reads behind the call as it read before'; 0 by the template 'total and deterministic' (their statements: YtmeeaaplhajaeaaTotals.lean).
  GIVEN WITH THE SEED: the statements are not yours to turn. If you find one false, say at which input.
  Laid BY PROGRAM, IN A SANDBOX (cutbox-rows.mjs): the forced cells as the released guide's own fill.sh prints them over the translation 787be21ac903799c… (all of the seat's roots in one cut). By AI agents, Wed Nov 11 2026. No macro, syntax, notation, axiom, sorry.
-/
import Derived.Test.YtmeeaaplhajaeaaChecked
import GoSem.Claim
import GoSem.ClaimJoined
import GoSem.ClaimMapViews
import Derived.JoinedTies
import Derived.KernelRfl
namespace Go.Proofs.Ytmeeaaplhajaeaa
/- THE CELL 'sum', in the pinned program and in every row, IS THE sha256 OF THE DUMP (.gsa) THAT YtmeeaaplhajaeaaProg.lean LOADS. Nothing in Lean hashes anything: it is a label: what it is worth is what the hold of that sum in a sandbox is worth. -/
noncomputable def Try.pinned : Pinned := { name := "ytmeeaaplhajaeaa", sum := "787be21ac903799caabe623100590106b24d08bdee2c9f5ef2eed9e9900b3fd7", checked := Try.checked }
namespace Rows
def none {H : Type} : Left H := { results := [], args := [] }

/-- 'haulierlaw07.BookMay': WHATEVER THE INPUT: true; the input reads as it did. -/
def bookMaySpec : ChangeSpec := { name := "bookMay", fn := fun _ => fun
  | [d] => { results := [.lit (.bool true)], args := [d] }
  | _ => none }
def bookMayRow : OpenClaim := { program := "ytmeeaaplhajaeaa", sum := "787be21ac903799caabe623100590106b24d08bdee2c9f5ef2eed9e9900b3fd7", func := "haulier/haulierlaw07.BookMay", spec := "bookMay", apart := false }
def BookMaySaid : Prop := bookMayRow.holds Try.pinned (OpenSpec.ofChange bookMaySpec)

/-- ITS FALSE NEIGHBOUR: 'it returns false'. Refute it at one input. -/
def bookMayWrong : ChangeSpec := { name := "bookMay", fn := fun _ => fun
  | [d] => { results := [.lit (.bool false)], args := [d] }
  | _ => none }
def BookMayWrongFalsely : Prop := bookMayRow.holds Try.pinned (OpenSpec.ofChange bookMayWrong)

/-- 'haulierlaw07.BookFrom': WHATEVER THE INPUT: true; the input reads as it did. -/
def bookFromSpec : ChangeSpec := { name := "bookFrom", fn := fun _ => fun
  | [d] => { results := [.lit (.bool true)], args := [d] }
  | _ => none }
def bookFromRow : OpenClaim := { program := "ytmeeaaplhajaeaa", sum := "787be21ac903799caabe623100590106b24d08bdee2c9f5ef2eed9e9900b3fd7", func := "haulier/haulierlaw07.BookFrom", spec := "bookFrom", apart := false }
def BookFromSaid : Prop := bookFromRow.holds Try.pinned (OpenSpec.ofChange bookFromSpec)

/-- ITS FALSE NEIGHBOUR: 'it returns false'. Refute it at one input. -/
def bookFromWrong : ChangeSpec := { name := "bookFrom", fn := fun _ => fun
  | [d] => { results := [.lit (.bool false)], args := [d] }
  | _ => none }
def BookFromWrongFalsely : Prop := bookFromRow.holds Try.pinned (OpenSpec.ofChange bookFromWrong)

/-- 'haulierlaw07.BookTighter': WHATEVER THE INPUT: true; the input reads as it did. -/
def bookTighterSpec : ChangeSpec := { name := "bookTighter", fn := fun _ => fun
  | [d1, d2, d3] => { results := [.lit (.bool true)], args := [d1, d2, d3] }
  | _ => none }
def bookTighterRow : OpenClaim := { program := "ytmeeaaplhajaeaa", sum := "787be21ac903799caabe623100590106b24d08bdee2c9f5ef2eed9e9900b3fd7", func := "haulier/haulierlaw07.BookTighter", spec := "bookTighter", apart := false }
def BookTighterSaid : Prop := bookTighterRow.holds Try.pinned (OpenSpec.ofChange bookTighterSpec)

/-- ITS FALSE NEIGHBOUR: 'it returns false'. Refute it at one input. -/
def bookTighterWrong : ChangeSpec := { name := "bookTighter", fn := fun _ => fun
  | [d1, d2, d3] => { results := [.lit (.bool false)], args := [d1, d2, d3] }
  | _ => none }
def BookTighterWrongFalsely : Prop := bookTighterRow.holds Try.pinned (OpenSpec.ofChange bookTighterWrong)

/- THE SECOND FORM. 'bulk': how many values and letters a reading holds, each counted each time it is reached (what is shared counts as often as it is met; a slice's spare places count too). A statement '..UptoSaid' is the law's where the arguments, and the package variables that the reading takes, are together of bulk at most 1048576: NARROWER than '..Said'. Prove '..Said' where nothing that the law and all that it calls make is longer than what came in: it says more and counts as full. Else prove '..UptoSaid'. A law counts once. -/
mutual
def uptoBulk {H : Type} : DataW H → Nat
  | .lit (.string bytes) => bytes.length + 1
  | .lit _ => 1
  | .nil => 1
  | .ptr d => uptoBulk d + 1
  | .slice elems spare => uptoBulkAll elems + uptoBulkAll spare + 1
  | .agg parts => uptoBulkAll parts + 1
  | .iface _ d => uptoBulk d + 1
  | .map entries => uptoBulkEntries entries + 1
  | .held _ => 1
def uptoBulkAll {H : Type} : List (DataW H) → Nat
  | [] => 0
  | d :: r => uptoBulk d + uptoBulkAll r
def uptoBulkEntries {H : Type} : List (Lit × DataW H) → Nat
  | [] => 0
  | x :: r => uptoBulkEntry x + uptoBulkEntries r
def uptoBulkEntry {H : Type} : Lit × DataW H → Nat
  | (.string bytes, d) => bytes.length + uptoBulk d + 1
  | (_, d) => uptoBulk d + 1
 end
def uptoSmall : (H : Type) → List (DataW H) → Bool := fun _ ds => decide (uptoBulkAll ds ≤ 1048576)
def OpenSpec.upto (s : _root_.Go.ChangeSpec) : _root_.Go.OpenSpec := { _root_.Go.OpenSpec.ofChange s with cond := some uptoSmall }

/-- 'haulierlaw07.BookMay', WHERE WHAT IT READS IS OF BULK AT MOST 1048576: true; the input reads as it did. -/
def bookMayUptoRow : OpenClaim := { program := "ytmeeaaplhajaeaa", sum := "787be21ac903799caabe623100590106b24d08bdee2c9f5ef2eed9e9900b3fd7", func := "haulier/haulierlaw07.BookMay", spec := "bookMay", apart := false, narrowed := true }
def BookMayUptoSaid : Prop := bookMayUptoRow.holds Try.pinned (OpenSpec.upto bookMaySpec)

/-- 'haulierlaw07.BookFrom', WHERE WHAT IT READS IS OF BULK AT MOST 1048576: true; the input reads as it did. -/
def bookFromUptoRow : OpenClaim := { program := "ytmeeaaplhajaeaa", sum := "787be21ac903799caabe623100590106b24d08bdee2c9f5ef2eed9e9900b3fd7", func := "haulier/haulierlaw07.BookFrom", spec := "bookFrom", apart := false, narrowed := true }
def BookFromUptoSaid : Prop := bookFromUptoRow.holds Try.pinned (OpenSpec.upto bookFromSpec)

/-- 'haulierlaw07.BookTighter', WHERE WHAT IT READS IS OF BULK AT MOST 1048576: true; the input reads as it did. -/
def bookTighterUptoRow : OpenClaim := { program := "ytmeeaaplhajaeaa", sum := "787be21ac903799caabe623100590106b24d08bdee2c9f5ef2eed9e9900b3fd7", func := "haulier/haulierlaw07.BookTighter", spec := "bookTighter", apart := false, narrowed := true }
def BookTighterUptoSaid : Prop := bookTighterUptoRow.holds Try.pinned (OpenSpec.upto bookTighterSpec)

end Rows
end Go.Proofs.Ytmeeaaplhajaeaa
