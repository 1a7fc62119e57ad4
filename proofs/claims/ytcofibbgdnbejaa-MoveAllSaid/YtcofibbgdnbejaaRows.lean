/-
  No cell of these rows narrows 'for every input' (looked for: loops, veiled, ifaces, maps, wideKeys, modest, calm, conditions, laid).
  DERIVED. THE GIVEN ROWS OF THIS SEAT. 5 by the template 'for every input the law returns true; each argument reads behind the call as it read before'; 0 by the template 'total and deterministic' (their statements: YtcofibbgdnbejaaTotals.lean).
  GIVEN WITH THE SEED: the statements are not yours to turn. If you find one false, say at which input.
  Laid BY PROGRAM, IN A SANDBOX (cutbox-rows.mjs): the forced cells as the released guide's own fill.sh prints them over the translation 6304713cb2afe8e9… (all of the seat's roots in one cut). By AI agents, Wed Nov 11 2026. No macro, syntax, notation, axiom, sorry.
-/
import Derived.Test.YtcofibbgdnbejaaChecked
import GoSem.Claim
import GoSem.ClaimJoined
import GoSem.ClaimMapViews
import Derived.JoinedTies
import Derived.KernelRfl
namespace Go.Proofs.Ytcofibbgdnbejaa
/- THE CELL 'sum', in the pinned program and in every row, IS THE sha256 OF THE DUMP (.gsa) THAT YtcofibbgdnbejaaProg.lean LOADS. Nothing in Lean hashes anything: it is a label: what it is worth is what the hold of that sum in a sandbox is worth. -/
noncomputable def Try.pinned : Pinned := { name := "ytcofibbgdnbejaa", sum := "6304713cb2afe8e9a15e235fb930dba2f182b3e6f0a356d625430857b662cd50", checked := Try.checked }
namespace Rows
def none {H : Type} : Left H := { results := [], args := [] }

/-- 'haulierlaw36.MoveApplies': WHATEVER THE INPUT: true; the input reads as it did. -/
def moveAppliesSpec : ChangeSpec := { name := "moveApplies", fn := fun _ => fun
  | [d1, d2, d3] => { results := [.lit (.bool true)], args := [d1, d2, d3] }
  | _ => none }
def moveAppliesRow : OpenClaim := { program := "ytcofibbgdnbejaa", sum := "6304713cb2afe8e9a15e235fb930dba2f182b3e6f0a356d625430857b662cd50", func := "haulier/haulierlaw36.MoveApplies", spec := "moveApplies", inPlace := ["slices.overlaps[int]"], unfollowed := true, recurses := true, apart := false }
def MoveAppliesSaid : Prop := moveAppliesRow.holds Try.pinned (OpenSpec.ofChange moveAppliesSpec)

/-- ITS FALSE NEIGHBOUR: 'it returns false'. Refute it at one input. -/
def moveAppliesWrong : ChangeSpec := { name := "moveApplies", fn := fun _ => fun
  | [d1, d2, d3] => { results := [.lit (.bool false)], args := [d1, d2, d3] }
  | _ => none }
def MoveAppliesWrongFalsely : Prop := moveAppliesRow.holds Try.pinned (OpenSpec.ofChange moveAppliesWrong)

/-- 'haulierlaw36.MoveKeeps': WHATEVER THE INPUT: true; the input reads as it did. -/
def moveKeepsSpec : ChangeSpec := { name := "moveKeeps", fn := fun _ => fun
  | [d1, d2] => { results := [.lit (.bool true)], args := [d1, d2] }
  | _ => none }
def moveKeepsRow : OpenClaim := { program := "ytcofibbgdnbejaa", sum := "6304713cb2afe8e9a15e235fb930dba2f182b3e6f0a356d625430857b662cd50", func := "haulier/haulierlaw36.MoveKeeps", spec := "moveKeeps", inPlace := ["slices.overlaps[int]"], unfollowed := true, recurses := true, apart := false }
def MoveKeepsSaid : Prop := moveKeepsRow.holds Try.pinned (OpenSpec.ofChange moveKeepsSpec)

/-- ITS FALSE NEIGHBOUR: 'it returns false'. Refute it at one input. -/
def moveKeepsWrong : ChangeSpec := { name := "moveKeeps", fn := fun _ => fun
  | [d1, d2] => { results := [.lit (.bool false)], args := [d1, d2] }
  | _ => none }
def MoveKeepsWrongFalsely : Prop := moveKeepsRow.holds Try.pinned (OpenSpec.ofChange moveKeepsWrong)

/-- 'haulierlaw36.MoveReaches': WHATEVER THE INPUT: true; the input reads as it did. -/
def moveReachesSpec : ChangeSpec := { name := "moveReaches", fn := fun _ => fun
  | [d1, d2] => { results := [.lit (.bool true)], args := [d1, d2] }
  | _ => none }
def moveReachesRow : OpenClaim := { program := "ytcofibbgdnbejaa", sum := "6304713cb2afe8e9a15e235fb930dba2f182b3e6f0a356d625430857b662cd50", func := "haulier/haulierlaw36.MoveReaches", spec := "moveReaches", inPlace := ["slices.overlaps[int]"], unfollowed := true, recurses := true, apart := false }
def MoveReachesSaid : Prop := moveReachesRow.holds Try.pinned (OpenSpec.ofChange moveReachesSpec)

/-- ITS FALSE NEIGHBOUR: 'it returns false'. Refute it at one input. -/
def moveReachesWrong : ChangeSpec := { name := "moveReaches", fn := fun _ => fun
  | [d1, d2] => { results := [.lit (.bool false)], args := [d1, d2] }
  | _ => none }
def MoveReachesWrongFalsely : Prop := moveReachesRow.holds Try.pinned (OpenSpec.ofChange moveReachesWrong)

/-- 'haulierlaw36.MoveBack': WHATEVER THE INPUT: true; the input reads as it did. -/
def moveBackSpec : ChangeSpec := { name := "moveBack", fn := fun _ => fun
  | [d1, d2] => { results := [.lit (.bool true)], args := [d1, d2] }
  | _ => none }
def moveBackRow : OpenClaim := { program := "ytcofibbgdnbejaa", sum := "6304713cb2afe8e9a15e235fb930dba2f182b3e6f0a356d625430857b662cd50", func := "haulier/haulierlaw36.MoveBack", spec := "moveBack", inPlace := ["slices.overlaps[int]"], unfollowed := true, recurses := true, apart := false }
def MoveBackSaid : Prop := moveBackRow.holds Try.pinned (OpenSpec.ofChange moveBackSpec)

/-- ITS FALSE NEIGHBOUR: 'it returns false'. Refute it at one input. -/
def moveBackWrong : ChangeSpec := { name := "moveBack", fn := fun _ => fun
  | [d1, d2] => { results := [.lit (.bool false)], args := [d1, d2] }
  | _ => none }
def MoveBackWrongFalsely : Prop := moveBackRow.holds Try.pinned (OpenSpec.ofChange moveBackWrong)

/-- 'haulierlaw36.MoveAll': WHATEVER THE INPUT: true; the input reads as it did. -/
def moveAllSpec : ChangeSpec := { name := "moveAll", fn := fun _ => fun
  | [d1, d2] => { results := [.lit (.bool true)], args := [d1, d2] }
  | _ => none }
def moveAllRow : OpenClaim := { program := "ytcofibbgdnbejaa", sum := "6304713cb2afe8e9a15e235fb930dba2f182b3e6f0a356d625430857b662cd50", func := "haulier/haulierlaw36.MoveAll", spec := "moveAll", inPlace := ["slices.overlaps[int]"], unfollowed := true, recurses := true, apart := false }
def MoveAllSaid : Prop := moveAllRow.holds Try.pinned (OpenSpec.ofChange moveAllSpec)

/-- ITS FALSE NEIGHBOUR: 'it returns false'. Refute it at one input. -/
def moveAllWrong : ChangeSpec := { name := "moveAll", fn := fun _ => fun
  | [d1, d2] => { results := [.lit (.bool false)], args := [d1, d2] }
  | _ => none }
def MoveAllWrongFalsely : Prop := moveAllRow.holds Try.pinned (OpenSpec.ofChange moveAllWrong)

/- THE SECOND FORM. 'bulk': how many values and letters a reading holds, each counted each time it is reached (what is shared counts as often as it is met; a slice's spare places count too). A statement '..UptoSaid' is the law's where the arguments, and the package variables that the reading takes, are together of bulk at most 1048576: NARROWER than '..Said'. Prove '..Said' where nothing that the law and all that it calls make is longer than what came in: it says more and counts as full. Else prove '..UptoSaid'. A law counts once. -/
mutual
def uptoBulk {H : Type} : DataW H → Nat
  | .lit (.string bytes) => bytes.length + 1
  | .lit _ => 1
  | .nil => 1
  | .ptr d => uptoBulk d + 1
  | .slice elems spare => uptoBulkAll elems + uptoBulkAll spare + 1
  | .agg parts => uptoBulkAll parts + 1
  | .iface _ d => uptoBulk d + 1
  | .map entries => uptoBulkEntries entries + 1
  | .held _ => 1
def uptoBulkAll {H : Type} : List (DataW H) → Nat
  | [] => 0
  | d :: r => uptoBulk d + uptoBulkAll r
def uptoBulkEntries {H : Type} : List (Lit × DataW H) → Nat
  | [] => 0
  | x :: r => uptoBulkEntry x + uptoBulkEntries r
def uptoBulkEntry {H : Type} : Lit × DataW H → Nat
  | (.string bytes, d) => bytes.length + uptoBulk d + 1
  | (_, d) => uptoBulk d + 1
 end
def uptoSmall : (H : Type) → List (DataW H) → Bool := fun _ ds => decide (uptoBulkAll ds ≤ 1048576)
def OpenSpec.upto (s : _root_.Go.ChangeSpec) : _root_.Go.OpenSpec := { _root_.Go.OpenSpec.ofChange s with cond := some uptoSmall }

/-- 'haulierlaw36.MoveApplies', WHERE WHAT IT READS IS OF BULK AT MOST 1048576: true; the input reads as it did. -/
def moveAppliesUptoRow : OpenClaim := { program := "ytcofibbgdnbejaa", sum := "6304713cb2afe8e9a15e235fb930dba2f182b3e6f0a356d625430857b662cd50", func := "haulier/haulierlaw36.MoveApplies", spec := "moveApplies", inPlace := ["slices.overlaps[int]"], unfollowed := true, recurses := true, apart := false, narrowed := true }
def MoveAppliesUptoSaid : Prop := moveAppliesUptoRow.holds Try.pinned (OpenSpec.upto moveAppliesSpec)

/-- 'haulierlaw36.MoveKeeps', WHERE WHAT IT READS IS OF BULK AT MOST 1048576: true; the input reads as it did. -/
def moveKeepsUptoRow : OpenClaim := { program := "ytcofibbgdnbejaa", sum := "6304713cb2afe8e9a15e235fb930dba2f182b3e6f0a356d625430857b662cd50", func := "haulier/haulierlaw36.MoveKeeps", spec := "moveKeeps", inPlace := ["slices.overlaps[int]"], unfollowed := true, recurses := true, apart := false, narrowed := true }
def MoveKeepsUptoSaid : Prop := moveKeepsUptoRow.holds Try.pinned (OpenSpec.upto moveKeepsSpec)

/-- 'haulierlaw36.MoveReaches', WHERE WHAT IT READS IS OF BULK AT MOST 1048576: true; the input reads as it did. -/
def moveReachesUptoRow : OpenClaim := { program := "ytcofibbgdnbejaa", sum := "6304713cb2afe8e9a15e235fb930dba2f182b3e6f0a356d625430857b662cd50", func := "haulier/haulierlaw36.MoveReaches", spec := "moveReaches", inPlace := ["slices.overlaps[int]"], unfollowed := true, recurses := true, apart := false, narrowed := true }
def MoveReachesUptoSaid : Prop := moveReachesUptoRow.holds Try.pinned (OpenSpec.upto moveReachesSpec)

/-- 'haulierlaw36.MoveBack', WHERE WHAT IT READS IS OF BULK AT MOST 1048576: true; the input reads as it did. -/
def moveBackUptoRow : OpenClaim := { program := "ytcofibbgdnbejaa", sum := "6304713cb2afe8e9a15e235fb930dba2f182b3e6f0a356d625430857b662cd50", func := "haulier/haulierlaw36.MoveBack", spec := "moveBack", inPlace := ["slices.overlaps[int]"], unfollowed := true, recurses := true, apart := false, narrowed := true }
def MoveBackUptoSaid : Prop := moveBackUptoRow.holds Try.pinned (OpenSpec.upto moveBackSpec)

/-- 'haulierlaw36.MoveAll', WHERE WHAT IT READS IS OF BULK AT MOST 1048576: true; the input reads as it did. -/
def moveAllUptoRow : OpenClaim := { program := "ytcofibbgdnbejaa", sum := "6304713cb2afe8e9a15e235fb930dba2f182b3e6f0a356d625430857b662cd50", func := "haulier/haulierlaw36.MoveAll", spec := "moveAll", inPlace := ["slices.overlaps[int]"], unfollowed := true, recurses := true, apart := false, narrowed := true }
def MoveAllUptoSaid : Prop := moveAllUptoRow.holds Try.pinned (OpenSpec.upto moveAllSpec)

end Rows
end Go.Proofs.Ytcofibbgdnbejaa
