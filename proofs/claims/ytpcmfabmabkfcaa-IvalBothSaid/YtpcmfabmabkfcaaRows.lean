/-
  No cell of these rows narrows 'for every input' (looked for: loops, veiled, ifaces, maps, wideKeys, modest, calm, conditions, laid).
  DERIVED. THE GIVEN ROWS OF THIS SEAT. 3 by the template 'for every input the law returns true; each argument reads behind the call as it read before'; 0 by the template 'total and deterministic' (their statements: YtpcmfabmabkfcaaTotals.lean).
  GIVEN WITH THE SEED: the statements are not yours to turn. If you find one false, say at which input.
  Laid BY PROGRAM, IN A SANDBOX (cutbox-rows.mjs): the forced cells as the released guide's own fill.sh prints them over the translation 1549e9ed1d010d93… (all of the seat's roots in one cut). By AI agents, Wed Nov 11 2026. No macro, syntax, notation, axiom, sorry.
-/
import Derived.Test.YtpcmfabmabkfcaaChecked
import GoSem.Claim
import GoSem.ClaimJoined
import GoSem.ClaimMapViews
import Derived.JoinedTies
import Derived.KernelRfl
namespace Go.Proofs.Ytpcmfabmabkfcaa
/- THE CELL 'sum', in the pinned program and in every row, IS THE sha256 OF THE DUMP (.gsa) THAT YtpcmfabmabkfcaaProg.lean LOADS. Nothing in Lean hashes anything: it is a label: what it is worth is what the hold of that sum in a sandbox is worth. -/
noncomputable def Try.pinned : Pinned := { name := "ytpcmfabmabkfcaa", sum := "1549e9ed1d010d93817cf21d31f90bd57b294f579a66e09de130125f0cc59635", checked := Try.checked }
namespace Rows
def none {H : Type} : Left H := { results := [], args := [] }

/-- 'haulierlaw02.IvalBoth': WHATEVER THE INPUT: true; the input reads as it did. -/
def ivalBothSpec : ChangeSpec := { name := "ivalBoth", fn := fun _ => fun
  | [d1, d2, d3] => { results := [.lit (.bool true)], args := [d1, d2, d3] }
  | _ => none }
def ivalBothRow : OpenClaim := { program := "ytpcmfabmabkfcaa", sum := "1549e9ed1d010d93817cf21d31f90bd57b294f579a66e09de130125f0cc59635", func := "haulier/haulierlaw02.IvalBoth", spec := "ivalBoth", apart := false }
def IvalBothSaid : Prop := ivalBothRow.holds Try.pinned (OpenSpec.ofChange ivalBothSpec)

/-- ITS FALSE NEIGHBOUR: 'it returns false'. Refute it at one input. -/
def ivalBothWrong : ChangeSpec := { name := "ivalBoth", fn := fun _ => fun
  | [d1, d2, d3] => { results := [.lit (.bool false)], args := [d1, d2, d3] }
  | _ => none }
def IvalBothWrongFalsely : Prop := ivalBothRow.holds Try.pinned (OpenSpec.ofChange ivalBothWrong)

/-- 'haulierlaw02.IvalMinutes': WHATEVER THE INPUT: true; the input reads as it did. -/
def ivalMinutesSpec : ChangeSpec := { name := "ivalMinutes", fn := fun _ => fun
  | [d1, d2, d3] => { results := [.lit (.bool true)], args := [d1, d2, d3] }
  | _ => none }
def ivalMinutesRow : OpenClaim := { program := "ytpcmfabmabkfcaa", sum := "1549e9ed1d010d93817cf21d31f90bd57b294f579a66e09de130125f0cc59635", func := "haulier/haulierlaw02.IvalMinutes", spec := "ivalMinutes", apart := false }
def IvalMinutesSaid : Prop := ivalMinutesRow.holds Try.pinned (OpenSpec.ofChange ivalMinutesSpec)

/-- ITS FALSE NEIGHBOUR: 'it returns false'. Refute it at one input. -/
def ivalMinutesWrong : ChangeSpec := { name := "ivalMinutes", fn := fun _ => fun
  | [d1, d2, d3] => { results := [.lit (.bool false)], args := [d1, d2, d3] }
  | _ => none }
def IvalMinutesWrongFalsely : Prop := ivalMinutesRow.holds Try.pinned (OpenSpec.ofChange ivalMinutesWrong)

/-- 'haulierlaw02.IvalLong': WHATEVER THE INPUT: true; the input reads as it did. -/
def ivalLongSpec : ChangeSpec := { name := "ivalLong", fn := fun _ => fun
  | [d1, d2, d3] => { results := [.lit (.bool true)], args := [d1, d2, d3] }
  | _ => none }
def ivalLongRow : OpenClaim := { program := "ytpcmfabmabkfcaa", sum := "1549e9ed1d010d93817cf21d31f90bd57b294f579a66e09de130125f0cc59635", func := "haulier/haulierlaw02.IvalLong", spec := "ivalLong", apart := false }
def IvalLongSaid : Prop := ivalLongRow.holds Try.pinned (OpenSpec.ofChange ivalLongSpec)

/-- ITS FALSE NEIGHBOUR: 'it returns false'. Refute it at one input. -/
def ivalLongWrong : ChangeSpec := { name := "ivalLong", fn := fun _ => fun
  | [d1, d2, d3] => { results := [.lit (.bool false)], args := [d1, d2, d3] }
  | _ => none }
def IvalLongWrongFalsely : Prop := ivalLongRow.holds Try.pinned (OpenSpec.ofChange ivalLongWrong)

/- THE SECOND FORM. 'bulk': how many values and letters a reading holds, each counted each time it is reached (what is shared counts as often as it is met; a slice's spare places count too). A statement '..UptoSaid' is the law's where the arguments, and the package variables that the reading takes, are together of bulk at most 1048576: NARROWER than '..Said'. Prove '..Said' where nothing that the law and all that it calls make is longer than what came in: it says more and counts as full. Else prove '..UptoSaid'. A law counts once. -/
mutual
def uptoBulk {H : Type} : DataW H → Nat
  | .lit (.string bytes) => bytes.length + 1
  | .lit _ => 1
  | .nil => 1
  | .ptr d => uptoBulk d + 1
  | .slice elems spare => uptoBulkAll elems + uptoBulkAll spare + 1
  | .agg parts => uptoBulkAll parts + 1
  | .iface _ d => uptoBulk d + 1
  | .map entries => uptoBulkEntries entries + 1
  | .held _ => 1
def uptoBulkAll {H : Type} : List (DataW H) → Nat
  | [] => 0
  | d :: r => uptoBulk d + uptoBulkAll r
def uptoBulkEntries {H : Type} : List (Lit × DataW H) → Nat
  | [] => 0
  | x :: r => uptoBulkEntry x + uptoBulkEntries r
def uptoBulkEntry {H : Type} : Lit × DataW H → Nat
  | (.string bytes, d) => bytes.length + uptoBulk d + 1
  | (_, d) => uptoBulk d + 1
 end
def uptoSmall : (H : Type) → List (DataW H) → Bool := fun _ ds => decide (uptoBulkAll ds ≤ 1048576)
def OpenSpec.upto (s : _root_.Go.ChangeSpec) : _root_.Go.OpenSpec := { _root_.Go.OpenSpec.ofChange s with cond := some uptoSmall }

/-- 'haulierlaw02.IvalBoth', WHERE WHAT IT READS IS OF BULK AT MOST 1048576: true; the input reads as it did. -/
def ivalBothUptoRow : OpenClaim := { program := "ytpcmfabmabkfcaa", sum := "1549e9ed1d010d93817cf21d31f90bd57b294f579a66e09de130125f0cc59635", func := "haulier/haulierlaw02.IvalBoth", spec := "ivalBoth", apart := false, narrowed := true }
def IvalBothUptoSaid : Prop := ivalBothUptoRow.holds Try.pinned (OpenSpec.upto ivalBothSpec)

/-- 'haulierlaw02.IvalMinutes', WHERE WHAT IT READS IS OF BULK AT MOST 1048576: true; the input reads as it did. -/
def ivalMinutesUptoRow : OpenClaim := { program := "ytpcmfabmabkfcaa", sum := "1549e9ed1d010d93817cf21d31f90bd57b294f579a66e09de130125f0cc59635", func := "haulier/haulierlaw02.IvalMinutes", spec := "ivalMinutes", apart := false, narrowed := true }
def IvalMinutesUptoSaid : Prop := ivalMinutesUptoRow.holds Try.pinned (OpenSpec.upto ivalMinutesSpec)

/-- 'haulierlaw02.IvalLong', WHERE WHAT IT READS IS OF BULK AT MOST 1048576: true; the input reads as it did. -/
def ivalLongUptoRow : OpenClaim := { program := "ytpcmfabmabkfcaa", sum := "1549e9ed1d010d93817cf21d31f90bd57b294f579a66e09de130125f0cc59635", func := "haulier/haulierlaw02.IvalLong", spec := "ivalLong", apart := false, narrowed := true }
def IvalLongUptoSaid : Prop := ivalLongUptoRow.holds Try.pinned (OpenSpec.upto ivalLongSpec)

end Rows
end Go.Proofs.Ytpcmfabmabkfcaa
