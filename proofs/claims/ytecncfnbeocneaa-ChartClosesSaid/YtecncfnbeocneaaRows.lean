/-
  No cell of these rows narrows 'for every input' (looked for: loops, veiled, ifaces, maps, wideKeys, modest, calm, conditions, laid).
  DERIVED. THE GIVEN ROWS OF THIS SEAT. 5 by the template 'for every input the law returns true; each argument reads behind the call as it read before'; 0 by the template 'total and deterministic' (their statements: YtecncfnbeocneaaTotals.lean).
  GIVEN WITH THE SEED: the statements are not yours to turn. If you find one false, say at which input.
  Laid BY PROGRAM, IN A SANDBOX (cutbox-rows.mjs): the forced cells as the released guide's own fill.sh prints them over the translation 76aabb4ed18dbbae… (all of the seat's roots in one cut). By AI agents, Wed Nov 11 2026. No macro, syntax, notation, axiom, sorry.
-/
import Derived.Test.YtecncfnbeocneaaChecked
import GoSem.Claim
import GoSem.ClaimJoined
import GoSem.ClaimMapViews
import Derived.JoinedTies
import Derived.KernelRfl
namespace Go.Proofs.Ytecncfnbeocneaa
/- THE CELL 'sum', in the pinned program and in every row, IS THE sha256 OF THE DUMP (.gsa) THAT YtecncfnbeocneaaProg.lean LOADS. Nothing in Lean hashes anything: it is a label: what it is worth is what the hold of that sum in a sandbox is worth. -/
noncomputable def Try.pinned : Pinned := { name := "ytecncfnbeocneaa", sum := "76aabb4ed18dbbaecdda1e6075d9bcbcd4662e446f8d04bf458a6e611ee50aca", checked := Try.checked }
namespace Rows
def none {H : Type} : Left H := { results := [], args := [] }

/-- 'haulierlaw27.ChartLengths': WHATEVER THE INPUT: true; the input reads as it did. -/
def chartLengthsSpec : ChangeSpec := { name := "chartLengths", fn := fun _ => fun
  | [d1, d2, d3] => { results := [.lit (.bool true)], args := [d1, d2, d3] }
  | _ => none }
def chartLengthsRow : OpenClaim := { program := "ytecncfnbeocneaa", sum := "76aabb4ed18dbbaecdda1e6075d9bcbcd4662e446f8d04bf458a6e611ee50aca", func := "haulier/haulierlaw27.ChartLengths", spec := "chartLengths", apart := false }
def ChartLengthsSaid : Prop := chartLengthsRow.holds Try.pinned (OpenSpec.ofChange chartLengthsSpec)

/-- ITS FALSE NEIGHBOUR: 'it returns false'. Refute it at one input. -/
def chartLengthsWrong : ChangeSpec := { name := "chartLengths", fn := fun _ => fun
  | [d1, d2, d3] => { results := [.lit (.bool false)], args := [d1, d2, d3] }
  | _ => none }
def ChartLengthsWrongFalsely : Prop := chartLengthsRow.holds Try.pinned (OpenSpec.ofChange chartLengthsWrong)

/-- 'haulierlaw27.ChartCloses': WHATEVER THE INPUT: true; the input reads as it did. -/
def chartClosesSpec : ChangeSpec := { name := "chartCloses", fn := fun _ => fun
  | [d1, d2, d3] => { results := [.lit (.bool true)], args := [d1, d2, d3] }
  | _ => none }
def chartClosesRow : OpenClaim := { program := "ytecncfnbeocneaa", sum := "76aabb4ed18dbbaecdda1e6075d9bcbcd4662e446f8d04bf458a6e611ee50aca", func := "haulier/haulierlaw27.ChartCloses", spec := "chartCloses", apart := false }
def ChartClosesSaid : Prop := chartClosesRow.holds Try.pinned (OpenSpec.ofChange chartClosesSpec)

/-- ITS FALSE NEIGHBOUR: 'it returns false'. Refute it at one input. -/
def chartClosesWrong : ChangeSpec := { name := "chartCloses", fn := fun _ => fun
  | [d1, d2, d3] => { results := [.lit (.bool false)], args := [d1, d2, d3] }
  | _ => none }
def ChartClosesWrongFalsely : Prop := chartClosesRow.holds Try.pinned (OpenSpec.ofChange chartClosesWrong)

/-- 'haulierlaw27.ChartChecks': WHATEVER THE INPUT: true; the input reads as it did. -/
def chartChecksSpec : ChangeSpec := { name := "chartChecks", fn := fun _ => fun
  | [d1, d2, d3] => { results := [.lit (.bool true)], args := [d1, d2, d3] }
  | _ => none }
def chartChecksRow : OpenClaim := { program := "ytecncfnbeocneaa", sum := "76aabb4ed18dbbaecdda1e6075d9bcbcd4662e446f8d04bf458a6e611ee50aca", func := "haulier/haulierlaw27.ChartChecks", spec := "chartChecks", apart := false }
def ChartChecksSaid : Prop := chartChecksRow.holds Try.pinned (OpenSpec.ofChange chartChecksSpec)

/-- ITS FALSE NEIGHBOUR: 'it returns false'. Refute it at one input. -/
def chartChecksWrong : ChangeSpec := { name := "chartChecks", fn := fun _ => fun
  | [d1, d2, d3] => { results := [.lit (.bool false)], args := [d1, d2, d3] }
  | _ => none }
def ChartChecksWrongFalsely : Prop := chartChecksRow.holds Try.pinned (OpenSpec.ofChange chartChecksWrong)

/-- 'haulierlaw27.ChartLeast': WHATEVER THE INPUT: true; the input reads as it did. -/
def chartLeastSpec : ChangeSpec := { name := "chartLeast", fn := fun _ => fun
  | [d1, d2] => { results := [.lit (.bool true)], args := [d1, d2] }
  | _ => none }
def chartLeastRow : OpenClaim := { program := "ytecncfnbeocneaa", sum := "76aabb4ed18dbbaecdda1e6075d9bcbcd4662e446f8d04bf458a6e611ee50aca", func := "haulier/haulierlaw27.ChartLeast", spec := "chartLeast", apart := false }
def ChartLeastSaid : Prop := chartLeastRow.holds Try.pinned (OpenSpec.ofChange chartLeastSpec)

/-- ITS FALSE NEIGHBOUR: 'it returns false'. Refute it at one input. -/
def chartLeastWrong : ChangeSpec := { name := "chartLeast", fn := fun _ => fun
  | [d1, d2] => { results := [.lit (.bool false)], args := [d1, d2] }
  | _ => none }
def ChartLeastWrongFalsely : Prop := chartLeastRow.holds Try.pinned (OpenSpec.ofChange chartLeastWrong)

/-- 'haulierlaw27.ChartClosed': WHATEVER THE INPUT: true; the input reads as it did. -/
def chartClosedSpec : ChangeSpec := { name := "chartClosed", fn := fun _ => fun
  | [d1, d2, d3] => { results := [.lit (.bool true)], args := [d1, d2, d3] }
  | _ => none }
def chartClosedRow : OpenClaim := { program := "ytecncfnbeocneaa", sum := "76aabb4ed18dbbaecdda1e6075d9bcbcd4662e446f8d04bf458a6e611ee50aca", func := "haulier/haulierlaw27.ChartClosed", spec := "chartClosed", apart := false }
def ChartClosedSaid : Prop := chartClosedRow.holds Try.pinned (OpenSpec.ofChange chartClosedSpec)

/-- ITS FALSE NEIGHBOUR: 'it returns false'. Refute it at one input. -/
def chartClosedWrong : ChangeSpec := { name := "chartClosed", fn := fun _ => fun
  | [d1, d2, d3] => { results := [.lit (.bool false)], args := [d1, d2, d3] }
  | _ => none }
def ChartClosedWrongFalsely : Prop := chartClosedRow.holds Try.pinned (OpenSpec.ofChange chartClosedWrong)

/- THE SECOND FORM. 'bulk': how many values and letters a reading holds, each counted each time it is reached (what is shared counts as often as it is met; a slice's spare places count too). A statement '..UptoSaid' is the law's where the arguments, and the package variables that the reading takes, are together of bulk at most 1048576: NARROWER than '..Said'. Prove '..Said' where nothing that the law and all that it calls make is longer than what came in: it says more and counts as full. Else prove '..UptoSaid'. A law counts once. -/
mutual
def uptoBulk {H : Type} : DataW H → Nat
  | .lit (.string bytes) => bytes.length + 1
  | .lit _ => 1
  | .nil => 1
  | .ptr d => uptoBulk d + 1
  | .slice elems spare => uptoBulkAll elems + uptoBulkAll spare + 1
  | .agg parts => uptoBulkAll parts + 1
  | .iface _ d => uptoBulk d + 1
  | .map entries => uptoBulkEntries entries + 1
  | .held _ => 1
def uptoBulkAll {H : Type} : List (DataW H) → Nat
  | [] => 0
  | d :: r => uptoBulk d + uptoBulkAll r
def uptoBulkEntries {H : Type} : List (Lit × DataW H) → Nat
  | [] => 0
  | x :: r => uptoBulkEntry x + uptoBulkEntries r
def uptoBulkEntry {H : Type} : Lit × DataW H → Nat
  | (.string bytes, d) => bytes.length + uptoBulk d + 1
  | (_, d) => uptoBulk d + 1
 end
def uptoSmall : (H : Type) → List (DataW H) → Bool := fun _ ds => decide (uptoBulkAll ds ≤ 1048576)
def OpenSpec.upto (s : _root_.Go.ChangeSpec) : _root_.Go.OpenSpec := { _root_.Go.OpenSpec.ofChange s with cond := some uptoSmall }

/-- 'haulierlaw27.ChartLengths', WHERE WHAT IT READS IS OF BULK AT MOST 1048576: true; the input reads as it did. -/
def chartLengthsUptoRow : OpenClaim := { program := "ytecncfnbeocneaa", sum := "76aabb4ed18dbbaecdda1e6075d9bcbcd4662e446f8d04bf458a6e611ee50aca", func := "haulier/haulierlaw27.ChartLengths", spec := "chartLengths", apart := false, narrowed := true }
def ChartLengthsUptoSaid : Prop := chartLengthsUptoRow.holds Try.pinned (OpenSpec.upto chartLengthsSpec)

/-- 'haulierlaw27.ChartCloses', WHERE WHAT IT READS IS OF BULK AT MOST 1048576: true; the input reads as it did. -/
def chartClosesUptoRow : OpenClaim := { program := "ytecncfnbeocneaa", sum := "76aabb4ed18dbbaecdda1e6075d9bcbcd4662e446f8d04bf458a6e611ee50aca", func := "haulier/haulierlaw27.ChartCloses", spec := "chartCloses", apart := false, narrowed := true }
def ChartClosesUptoSaid : Prop := chartClosesUptoRow.holds Try.pinned (OpenSpec.upto chartClosesSpec)

/-- 'haulierlaw27.ChartChecks', WHERE WHAT IT READS IS OF BULK AT MOST 1048576: true; the input reads as it did. -/
def chartChecksUptoRow : OpenClaim := { program := "ytecncfnbeocneaa", sum := "76aabb4ed18dbbaecdda1e6075d9bcbcd4662e446f8d04bf458a6e611ee50aca", func := "haulier/haulierlaw27.ChartChecks", spec := "chartChecks", apart := false, narrowed := true }
def ChartChecksUptoSaid : Prop := chartChecksUptoRow.holds Try.pinned (OpenSpec.upto chartChecksSpec)

/-- 'haulierlaw27.ChartLeast', WHERE WHAT IT READS IS OF BULK AT MOST 1048576: true; the input reads as it did. -/
def chartLeastUptoRow : OpenClaim := { program := "ytecncfnbeocneaa", sum := "76aabb4ed18dbbaecdda1e6075d9bcbcd4662e446f8d04bf458a6e611ee50aca", func := "haulier/haulierlaw27.ChartLeast", spec := "chartLeast", apart := false, narrowed := true }
def ChartLeastUptoSaid : Prop := chartLeastUptoRow.holds Try.pinned (OpenSpec.upto chartLeastSpec)

/-- 'haulierlaw27.ChartClosed', WHERE WHAT IT READS IS OF BULK AT MOST 1048576: true; the input reads as it did. -/
def chartClosedUptoRow : OpenClaim := { program := "ytecncfnbeocneaa", sum := "76aabb4ed18dbbaecdda1e6075d9bcbcd4662e446f8d04bf458a6e611ee50aca", func := "haulier/haulierlaw27.ChartClosed", spec := "chartClosed", apart := false, narrowed := true }
def ChartClosedUptoSaid : Prop := chartClosedUptoRow.holds Try.pinned (OpenSpec.upto chartClosedSpec)

end Rows
end Go.Proofs.Ytecncfnbeocneaa
