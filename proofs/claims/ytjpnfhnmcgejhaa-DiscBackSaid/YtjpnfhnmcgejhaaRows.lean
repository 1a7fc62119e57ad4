/-
  No cell of these rows narrows 'for every input' (looked for: loops, veiled, ifaces, maps, wideKeys, modest, calm, conditions, laid).
  DERIVED. THE GIVEN ROWS OF THIS SEAT. 3 by the template 'for every input the law returns true; each argument reads behind the call as it read before'; 0 by the template 'total and deterministic' (their statements: YtjpnfhnmcgejhaaTotals.lean).
  GIVEN WITH THE SEED: the statements are not yours to turn. If you find one false, say at which input.
  Laid BY PROGRAM, IN A SANDBOX (cutbox-rows.mjs): the forced cells as the released guide's own fill.sh prints them over the translation ecac233c7a985883… (all of the seat's roots in one cut). By AI agents, Wed Nov 11 2026. No macro, syntax, notation, axiom, sorry.
-/
import Derived.Test.YtjpnfhnmcgejhaaChecked
import GoSem.Claim
import GoSem.ClaimJoined
import GoSem.ClaimMapViews
import Derived.JoinedTies
import Derived.KernelRfl
namespace Go.Proofs.Ytjpnfhnmcgejhaa
/- THE CELL 'sum', in the pinned program and in every row, IS THE sha256 OF THE DUMP (.gsa) THAT YtjpnfhnmcgejhaaProg.lean LOADS. Nothing in Lean hashes anything: it is a label: what it is worth is what the hold of that sum in a sandbox is worth. -/
noncomputable def Try.pinned : Pinned := { name := "ytjpnfhnmcgejhaa", sum := "ecac233c7a985883f14134c8fa3a16f8163be3c2f79cc0b1d1db75f0afc3b3b1", checked := Try.checked }
namespace Rows
def none {H : Type} : Left H := { results := [], args := [] }

/-- 'haulierlaw11.DiscChanges': WHATEVER THE INPUT: true; the input reads as it did. -/
def discChangesSpec : ChangeSpec := { name := "discChanges", fn := fun _ => fun
  | [d1, d2, d3] => { results := [.lit (.bool true)], args := [d1, d2, d3] }
  | _ => none }
def discChangesRow : OpenClaim := { program := "ytjpnfhnmcgejhaa", sum := "ecac233c7a985883f14134c8fa3a16f8163be3c2f79cc0b1d1db75f0afc3b3b1", func := "haulier/haulierlaw11.DiscChanges", spec := "discChanges", apart := false }
def DiscChangesSaid : Prop := discChangesRow.holds Try.pinned (OpenSpec.ofChange discChangesSpec)

/-- ITS FALSE NEIGHBOUR: 'it returns false'. Refute it at one input. -/
def discChangesWrong : ChangeSpec := { name := "discChanges", fn := fun _ => fun
  | [d1, d2, d3] => { results := [.lit (.bool false)], args := [d1, d2, d3] }
  | _ => none }
def DiscChangesWrongFalsely : Prop := discChangesRow.holds Try.pinned (OpenSpec.ofChange discChangesWrong)

/-- 'haulierlaw11.DiscEncodes': WHATEVER THE INPUT: true; the input reads as it did. -/
def discEncodesSpec : ChangeSpec := { name := "discEncodes", fn := fun _ => fun
  | [d] => { results := [.lit (.bool true)], args := [d] }
  | _ => none }
def discEncodesRow : OpenClaim := { program := "ytjpnfhnmcgejhaa", sum := "ecac233c7a985883f14134c8fa3a16f8163be3c2f79cc0b1d1db75f0afc3b3b1", func := "haulier/haulierlaw11.DiscEncodes", spec := "discEncodes", unfollowed := true, recurses := true, apart := false }
def DiscEncodesSaid : Prop := discEncodesRow.holds Try.pinned (OpenSpec.ofChange discEncodesSpec)

/-- ITS FALSE NEIGHBOUR: 'it returns false'. Refute it at one input. -/
def discEncodesWrong : ChangeSpec := { name := "discEncodes", fn := fun _ => fun
  | [d] => { results := [.lit (.bool false)], args := [d] }
  | _ => none }
def DiscEncodesWrongFalsely : Prop := discEncodesRow.holds Try.pinned (OpenSpec.ofChange discEncodesWrong)

/-- 'haulierlaw11.DiscBack': WHATEVER THE INPUT: true; the input reads as it did. -/
def discBackSpec : ChangeSpec := { name := "discBack", fn := fun _ => fun
  | [d1, d2, d3] => { results := [.lit (.bool true)], args := [d1, d2, d3] }
  | _ => none }
def discBackRow : OpenClaim := { program := "ytjpnfhnmcgejhaa", sum := "ecac233c7a985883f14134c8fa3a16f8163be3c2f79cc0b1d1db75f0afc3b3b1", func := "haulier/haulierlaw11.DiscBack", spec := "discBack", unfollowed := true, recurses := true, apart := false }
def DiscBackSaid : Prop := discBackRow.holds Try.pinned (OpenSpec.ofChange discBackSpec)

/-- ITS FALSE NEIGHBOUR: 'it returns false'. Refute it at one input. -/
def discBackWrong : ChangeSpec := { name := "discBack", fn := fun _ => fun
  | [d1, d2, d3] => { results := [.lit (.bool false)], args := [d1, d2, d3] }
  | _ => none }
def DiscBackWrongFalsely : Prop := discBackRow.holds Try.pinned (OpenSpec.ofChange discBackWrong)

/- THE SECOND FORM. 'bulk': how many values and letters a reading holds, each counted each time it is reached (what is shared counts as often as it is met; a slice's spare places count too). A statement '..UptoSaid' is the law's where the arguments, and the package variables that the reading takes, are together of bulk at most 1048576: NARROWER than '..Said'. Prove '..Said' where nothing that the law and all that it calls make is longer than what came in: it says more and counts as full. Else prove '..UptoSaid'. A law counts once. -/
mutual
def uptoBulk {H : Type} : DataW H → Nat
  | .lit (.string bytes) => bytes.length + 1
  | .lit _ => 1
  | .nil => 1
  | .ptr d => uptoBulk d + 1
  | .slice elems spare => uptoBulkAll elems + uptoBulkAll spare + 1
  | .agg parts => uptoBulkAll parts + 1
  | .iface _ d => uptoBulk d + 1
  | .map entries => uptoBulkEntries entries + 1
  | .held _ => 1
def uptoBulkAll {H : Type} : List (DataW H) → Nat
  | [] => 0
  | d :: r => uptoBulk d + uptoBulkAll r
def uptoBulkEntries {H : Type} : List (Lit × DataW H) → Nat
  | [] => 0
  | x :: r => uptoBulkEntry x + uptoBulkEntries r
def uptoBulkEntry {H : Type} : Lit × DataW H → Nat
  | (.string bytes, d) => bytes.length + uptoBulk d + 1
  | (_, d) => uptoBulk d + 1
 end
def uptoSmall : (H : Type) → List (DataW H) → Bool := fun _ ds => decide (uptoBulkAll ds ≤ 1048576)
def OpenSpec.upto (s : _root_.Go.ChangeSpec) : _root_.Go.OpenSpec := { _root_.Go.OpenSpec.ofChange s with cond := some uptoSmall }

/-- 'haulierlaw11.DiscChanges', WHERE WHAT IT READS IS OF BULK AT MOST 1048576: true; the input reads as it did. -/
def discChangesUptoRow : OpenClaim := { program := "ytjpnfhnmcgejhaa", sum := "ecac233c7a985883f14134c8fa3a16f8163be3c2f79cc0b1d1db75f0afc3b3b1", func := "haulier/haulierlaw11.DiscChanges", spec := "discChanges", apart := false, narrowed := true }
def DiscChangesUptoSaid : Prop := discChangesUptoRow.holds Try.pinned (OpenSpec.upto discChangesSpec)

/-- 'haulierlaw11.DiscEncodes', WHERE WHAT IT READS IS OF BULK AT MOST 1048576: true; the input reads as it did. -/
def discEncodesUptoRow : OpenClaim := { program := "ytjpnfhnmcgejhaa", sum := "ecac233c7a985883f14134c8fa3a16f8163be3c2f79cc0b1d1db75f0afc3b3b1", func := "haulier/haulierlaw11.DiscEncodes", spec := "discEncodes", unfollowed := true, recurses := true, apart := false, narrowed := true }
def DiscEncodesUptoSaid : Prop := discEncodesUptoRow.holds Try.pinned (OpenSpec.upto discEncodesSpec)

/-- 'haulierlaw11.DiscBack', WHERE WHAT IT READS IS OF BULK AT MOST 1048576: true; the input reads as it did. -/
def discBackUptoRow : OpenClaim := { program := "ytjpnfhnmcgejhaa", sum := "ecac233c7a985883f14134c8fa3a16f8163be3c2f79cc0b1d1db75f0afc3b3b1", func := "haulier/haulierlaw11.DiscBack", spec := "discBack", unfollowed := true, recurses := true, apart := false, narrowed := true }
def DiscBackUptoSaid : Prop := discBackUptoRow.holds Try.pinned (OpenSpec.upto discBackSpec)

end Rows
end Go.Proofs.Ytjpnfhnmcgejhaa
