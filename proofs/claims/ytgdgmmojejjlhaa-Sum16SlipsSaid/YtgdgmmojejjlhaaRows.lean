/-
  No cell of these rows narrows 'for every input' (looked for: loops, veiled, ifaces, maps, wideKeys, modest, calm, conditions, laid).
  DERIVED. THE GIVEN ROWS OF THIS SEAT. 4 by the template 'for every input the law returns true; each argument reads behind the call as it read before'; 0 by the template 'total and deterministic' (their statements: YtgdgmmojejjlhaaTotals.lean).
  GIVEN WITH THE SEED: the statements are not yours to turn. If you find one false, say at which input.
  Laid BY PROGRAM, IN A SANDBOX (cutbox-rows.mjs): the forced cells as the released guide's own fill.sh prints them over the translation 419c23c35b860503… (all of the seat's roots in one cut). By AI agents, Wed Nov 11 2026. No macro, syntax, notation, axiom, sorry.
-/
import Derived.Test.YtgdgmmojejjlhaaChecked
import GoSem.Claim
import GoSem.ClaimJoined
import GoSem.ClaimMapViews
import Derived.JoinedTies
import Derived.KernelRfl
namespace Go.Proofs.Ytgdgmmojejjlhaa
/- THE CELL 'sum', in the pinned program and in every row, IS THE sha256 OF THE DUMP (.gsa) THAT YtgdgmmojejjlhaaProg.lean LOADS. Nothing in Lean hashes anything: it is a label: what it is worth is what the hold of that sum in a sandbox is worth. -/
noncomputable def Try.pinned : Pinned := { name := "ytgdgmmojejjlhaa", sum := "419c23c35b86050346d7394a655de95cb3c9dd624face411d749177d7e278e89", checked := Try.checked }
namespace Rows
def none {H : Type} : Left H := { results := [], args := [] }

/-- 'haulierlaw05.Sum16Sums': WHATEVER THE INPUT: true; the input reads as it did. -/
def sum16SumsSpec : ChangeSpec := { name := "sum16Sums", fn := fun _ => fun
  | [d1, d2, d3] => { results := [.lit (.bool true)], args := [d1, d2, d3] }
  | _ => none }
def sum16SumsRow : OpenClaim := { program := "ytgdgmmojejjlhaa", sum := "419c23c35b86050346d7394a655de95cb3c9dd624face411d749177d7e278e89", func := "haulier/haulierlaw05.Sum16Sums", spec := "sum16Sums", apart := false }
def Sum16SumsSaid : Prop := sum16SumsRow.holds Try.pinned (OpenSpec.ofChange sum16SumsSpec)

/-- ITS FALSE NEIGHBOUR: 'it returns false'. Refute it at one input. -/
def sum16SumsWrong : ChangeSpec := { name := "sum16Sums", fn := fun _ => fun
  | [d1, d2, d3] => { results := [.lit (.bool false)], args := [d1, d2, d3] }
  | _ => none }
def Sum16SumsWrongFalsely : Prop := sum16SumsRow.holds Try.pinned (OpenSpec.ofChange sum16SumsWrong)

/-- 'haulierlaw05.Sum16Seals': WHATEVER THE INPUT: true; the input reads as it did. -/
def sum16SealsSpec : ChangeSpec := { name := "sum16Seals", fn := fun _ => fun
  | [d1, d2] => { results := [.lit (.bool true)], args := [d1, d2] }
  | _ => none }
def sum16SealsRow : OpenClaim := { program := "ytgdgmmojejjlhaa", sum := "419c23c35b86050346d7394a655de95cb3c9dd624face411d749177d7e278e89", func := "haulier/haulierlaw05.Sum16Seals", spec := "sum16Seals", apart := false }
def Sum16SealsSaid : Prop := sum16SealsRow.holds Try.pinned (OpenSpec.ofChange sum16SealsSpec)

/-- ITS FALSE NEIGHBOUR: 'it returns false'. Refute it at one input. -/
def sum16SealsWrong : ChangeSpec := { name := "sum16Seals", fn := fun _ => fun
  | [d1, d2] => { results := [.lit (.bool false)], args := [d1, d2] }
  | _ => none }
def Sum16SealsWrongFalsely : Prop := sum16SealsRow.holds Try.pinned (OpenSpec.ofChange sum16SealsWrong)

/-- 'haulierlaw05.Sum16Slips': WHATEVER THE INPUT: true; the input reads as it did. -/
def sum16SlipsSpec : ChangeSpec := { name := "sum16Slips", fn := fun _ => fun
  | [d1, d2, d3] => { results := [.lit (.bool true)], args := [d1, d2, d3] }
  | _ => none }
def sum16SlipsRow : OpenClaim := { program := "ytgdgmmojejjlhaa", sum := "419c23c35b86050346d7394a655de95cb3c9dd624face411d749177d7e278e89", func := "haulier/haulierlaw05.Sum16Slips", spec := "sum16Slips", apart := false }
def Sum16SlipsSaid : Prop := sum16SlipsRow.holds Try.pinned (OpenSpec.ofChange sum16SlipsSpec)

/-- ITS FALSE NEIGHBOUR: 'it returns false'. Refute it at one input. -/
def sum16SlipsWrong : ChangeSpec := { name := "sum16Slips", fn := fun _ => fun
  | [d1, d2, d3] => { results := [.lit (.bool false)], args := [d1, d2, d3] }
  | _ => none }
def Sum16SlipsWrongFalsely : Prop := sum16SlipsRow.holds Try.pinned (OpenSpec.ofChange sum16SlipsWrong)

/-- 'haulierlaw05.Sum16Numbers': WHATEVER THE INPUT: true; the input reads as it did. -/
def sum16NumbersSpec : ChangeSpec := { name := "sum16Numbers", fn := fun _ => fun
  | [d1, d2, d3] => { results := [.lit (.bool true)], args := [d1, d2, d3] }
  | _ => none }
def sum16NumbersRow : OpenClaim := { program := "ytgdgmmojejjlhaa", sum := "419c23c35b86050346d7394a655de95cb3c9dd624face411d749177d7e278e89", func := "haulier/haulierlaw05.Sum16Numbers", spec := "sum16Numbers", apart := false }
def Sum16NumbersSaid : Prop := sum16NumbersRow.holds Try.pinned (OpenSpec.ofChange sum16NumbersSpec)

/-- ITS FALSE NEIGHBOUR: 'it returns false'. Refute it at one input. -/
def sum16NumbersWrong : ChangeSpec := { name := "sum16Numbers", fn := fun _ => fun
  | [d1, d2, d3] => { results := [.lit (.bool false)], args := [d1, d2, d3] }
  | _ => none }
def Sum16NumbersWrongFalsely : Prop := sum16NumbersRow.holds Try.pinned (OpenSpec.ofChange sum16NumbersWrong)

/- THE SECOND FORM. 'bulk': how many values and letters a reading holds, each counted each time it is reached (what is shared counts as often as it is met; a slice's spare places count too). A statement '..UptoSaid' is the law's where the arguments, and the package variables that the reading takes, are together of bulk at most 1048576: NARROWER than '..Said'. Prove '..Said' where nothing that the law and all that it calls make is longer than what came in: it says more and counts as full. Else prove '..UptoSaid'. A law counts once. -/
mutual
def uptoBulk {H : Type} : DataW H → Nat
  | .lit (.string bytes) => bytes.length + 1
  | .lit _ => 1
  | .nil => 1
  | .ptr d => uptoBulk d + 1
  | .slice elems spare => uptoBulkAll elems + uptoBulkAll spare + 1
  | .agg parts => uptoBulkAll parts + 1
  | .iface _ d => uptoBulk d + 1
  | .map entries => uptoBulkEntries entries + 1
  | .held _ => 1
def uptoBulkAll {H : Type} : List (DataW H) → Nat
  | [] => 0
  | d :: r => uptoBulk d + uptoBulkAll r
def uptoBulkEntries {H : Type} : List (Lit × DataW H) → Nat
  | [] => 0
  | x :: r => uptoBulkEntry x + uptoBulkEntries r
def uptoBulkEntry {H : Type} : Lit × DataW H → Nat
  | (.string bytes, d) => bytes.length + uptoBulk d + 1
  | (_, d) => uptoBulk d + 1
 end
def uptoSmall : (H : Type) → List (DataW H) → Bool := fun _ ds => decide (uptoBulkAll ds ≤ 1048576)
def OpenSpec.upto (s : _root_.Go.ChangeSpec) : _root_.Go.OpenSpec := { _root_.Go.OpenSpec.ofChange s with cond := some uptoSmall }

/-- 'haulierlaw05.Sum16Sums', WHERE WHAT IT READS IS OF BULK AT MOST 1048576: true; the input reads as it did. -/
def sum16SumsUptoRow : OpenClaim := { program := "ytgdgmmojejjlhaa", sum := "419c23c35b86050346d7394a655de95cb3c9dd624face411d749177d7e278e89", func := "haulier/haulierlaw05.Sum16Sums", spec := "sum16Sums", apart := false, narrowed := true }
def Sum16SumsUptoSaid : Prop := sum16SumsUptoRow.holds Try.pinned (OpenSpec.upto sum16SumsSpec)

/-- 'haulierlaw05.Sum16Seals', WHERE WHAT IT READS IS OF BULK AT MOST 1048576: true; the input reads as it did. -/
def sum16SealsUptoRow : OpenClaim := { program := "ytgdgmmojejjlhaa", sum := "419c23c35b86050346d7394a655de95cb3c9dd624face411d749177d7e278e89", func := "haulier/haulierlaw05.Sum16Seals", spec := "sum16Seals", apart := false, narrowed := true }
def Sum16SealsUptoSaid : Prop := sum16SealsUptoRow.holds Try.pinned (OpenSpec.upto sum16SealsSpec)

/-- 'haulierlaw05.Sum16Slips', WHERE WHAT IT READS IS OF BULK AT MOST 1048576: true; the input reads as it did. -/
def sum16SlipsUptoRow : OpenClaim := { program := "ytgdgmmojejjlhaa", sum := "419c23c35b86050346d7394a655de95cb3c9dd624face411d749177d7e278e89", func := "haulier/haulierlaw05.Sum16Slips", spec := "sum16Slips", apart := false, narrowed := true }
def Sum16SlipsUptoSaid : Prop := sum16SlipsUptoRow.holds Try.pinned (OpenSpec.upto sum16SlipsSpec)

/-- 'haulierlaw05.Sum16Numbers', WHERE WHAT IT READS IS OF BULK AT MOST 1048576: true; the input reads as it did. -/
def sum16NumbersUptoRow : OpenClaim := { program := "ytgdgmmojejjlhaa", sum := "419c23c35b86050346d7394a655de95cb3c9dd624face411d749177d7e278e89", func := "haulier/haulierlaw05.Sum16Numbers", spec := "sum16Numbers", apart := false, narrowed := true }
def Sum16NumbersUptoSaid : Prop := sum16NumbersUptoRow.holds Try.pinned (OpenSpec.upto sum16NumbersSpec)

end Rows
end Go.Proofs.Ytgdgmmojejjlhaa
