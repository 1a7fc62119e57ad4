/-
  No cell of these rows narrows 'for every input' (looked for: loops, veiled, ifaces, maps, wideKeys, modest, calm, conditions, laid).
  DERIVED. THE GIVEN ROWS OF THIS SEAT. 3 by the template 'for every input the law returns true; each argument reads behind the call as it read before'; 0 by the template 'total and deterministic' (their statements: YthajccdaidhdkaaTotals.lean).
  GIVEN WITH THE SEED: the statements are not yours to turn. If you find one false, say at which input.
  Laid BY PROGRAM, IN A SANDBOX (cutbox-rows.mjs): the forced cells as the released guide's own fill.sh prints them over the translation 00d7bab265b93c0e… (all of the seat's roots in one cut). By AI agents, Wed Nov 11 2026. No macro, syntax, notation, axiom, sorry.
-/
import Derived.Test.YthajccdaidhdkaaChecked
import GoSem.Claim
import GoSem.ClaimJoined
import GoSem.ClaimMapViews
import Derived.JoinedTies
import Derived.KernelRfl
namespace Go.Proofs.Ythajccdaidhdkaa
/- THE CELL 'sum', in the pinned program and in every row, IS THE sha256 OF THE DUMP (.gsa) THAT YthajccdaidhdkaaProg.lean LOADS. Nothing in Lean hashes anything: it is a label: what it is worth is what the hold of that sum in a sandbox is worth. -/
noncomputable def Try.pinned : Pinned := { name := "ythajccdaidhdkaa", sum := "00d7bab265b93c0e82e247eea14e4320df403f9410a6699f82991793bbc3386f", checked := Try.checked }
namespace Rows
def none {H : Type} : Left H := { results := [], args := [] }

/-- 'haulierlaw21.LoadSteps': WHATEVER THE INPUT: true; the input reads as it did. -/
def loadStepsSpec : ChangeSpec := { name := "loadSteps", fn := fun _ => fun
  | [d] => { results := [.lit (.bool true)], args := [d] }
  | _ => none }
def loadStepsRow : OpenClaim := { program := "ythajccdaidhdkaa", sum := "00d7bab265b93c0e82e247eea14e4320df403f9410a6699f82991793bbc3386f", func := "haulier/haulierlaw21.LoadSteps", spec := "loadSteps", unfollowed := true, recurses := true, apart := false }
def LoadStepsSaid : Prop := loadStepsRow.holds Try.pinned (OpenSpec.ofChange loadStepsSpec)

/-- ITS FALSE NEIGHBOUR: 'it returns false'. Refute it at one input. -/
def loadStepsWrong : ChangeSpec := { name := "loadSteps", fn := fun _ => fun
  | [d] => { results := [.lit (.bool false)], args := [d] }
  | _ => none }
def LoadStepsWrongFalsely : Prop := loadStepsRow.holds Try.pinned (OpenSpec.ofChange loadStepsWrong)

/-- 'haulierlaw21.LoadLegs': WHATEVER THE INPUT: true; the input reads as it did. -/
def loadLegsSpec : ChangeSpec := { name := "loadLegs", fn := fun _ => fun
  | [d1, d2] => { results := [.lit (.bool true)], args := [d1, d2] }
  | _ => none }
def loadLegsRow : OpenClaim := { program := "ythajccdaidhdkaa", sum := "00d7bab265b93c0e82e247eea14e4320df403f9410a6699f82991793bbc3386f", func := "haulier/haulierlaw21.LoadLegs", spec := "loadLegs", unfollowed := true, recurses := true, apart := false }
def LoadLegsSaid : Prop := loadLegsRow.holds Try.pinned (OpenSpec.ofChange loadLegsSpec)

/-- ITS FALSE NEIGHBOUR: 'it returns false'. Refute it at one input. -/
def loadLegsWrong : ChangeSpec := { name := "loadLegs", fn := fun _ => fun
  | [d1, d2] => { results := [.lit (.bool false)], args := [d1, d2] }
  | _ => none }
def LoadLegsWrongFalsely : Prop := loadLegsRow.holds Try.pinned (OpenSpec.ofChange loadLegsWrong)

/-- 'haulierlaw21.LoadEase': WHATEVER THE INPUT: true; the input reads as it did. -/
def loadEaseSpec : ChangeSpec := { name := "loadEase", fn := fun _ => fun
  | [d1, d2] => { results := [.lit (.bool true)], args := [d1, d2] }
  | _ => none }
def loadEaseRow : OpenClaim := { program := "ythajccdaidhdkaa", sum := "00d7bab265b93c0e82e247eea14e4320df403f9410a6699f82991793bbc3386f", func := "haulier/haulierlaw21.LoadEase", spec := "loadEase", unfollowed := true, recurses := true, apart := false }
def LoadEaseSaid : Prop := loadEaseRow.holds Try.pinned (OpenSpec.ofChange loadEaseSpec)

/-- ITS FALSE NEIGHBOUR: 'it returns false'. Refute it at one input. -/
def loadEaseWrong : ChangeSpec := { name := "loadEase", fn := fun _ => fun
  | [d1, d2] => { results := [.lit (.bool false)], args := [d1, d2] }
  | _ => none }
def LoadEaseWrongFalsely : Prop := loadEaseRow.holds Try.pinned (OpenSpec.ofChange loadEaseWrong)

/- THE SECOND FORM. 'bulk': how many values and letters a reading holds, each counted each time it is reached (what is shared counts as often as it is met; a slice's spare places count too). A statement '..UptoSaid' is the law's where the arguments, and the package variables that the reading takes, are together of bulk at most 1048576: NARROWER than '..Said'. Prove '..Said' where nothing that the law and all that it calls make is longer than what came in: it says more and counts as full. Else prove '..UptoSaid'. A law counts once. -/
mutual
def uptoBulk {H : Type} : DataW H → Nat
  | .lit (.string bytes) => bytes.length + 1
  | .lit _ => 1
  | .nil => 1
  | .ptr d => uptoBulk d + 1
  | .slice elems spare => uptoBulkAll elems + uptoBulkAll spare + 1
  | .agg parts => uptoBulkAll parts + 1
  | .iface _ d => uptoBulk d + 1
  | .map entries => uptoBulkEntries entries + 1
  | .held _ => 1
def uptoBulkAll {H : Type} : List (DataW H) → Nat
  | [] => 0
  | d :: r => uptoBulk d + uptoBulkAll r
def uptoBulkEntries {H : Type} : List (Lit × DataW H) → Nat
  | [] => 0
  | x :: r => uptoBulkEntry x + uptoBulkEntries r
def uptoBulkEntry {H : Type} : Lit × DataW H → Nat
  | (.string bytes, d) => bytes.length + uptoBulk d + 1
  | (_, d) => uptoBulk d + 1
 end
def uptoSmall : (H : Type) → List (DataW H) → Bool := fun _ ds => decide (uptoBulkAll ds ≤ 1048576)
def OpenSpec.upto (s : _root_.Go.ChangeSpec) : _root_.Go.OpenSpec := { _root_.Go.OpenSpec.ofChange s with cond := some uptoSmall }

/-- 'haulierlaw21.LoadSteps', WHERE WHAT IT READS IS OF BULK AT MOST 1048576: true; the input reads as it did. -/
def loadStepsUptoRow : OpenClaim := { program := "ythajccdaidhdkaa", sum := "00d7bab265b93c0e82e247eea14e4320df403f9410a6699f82991793bbc3386f", func := "haulier/haulierlaw21.LoadSteps", spec := "loadSteps", unfollowed := true, recurses := true, apart := false, narrowed := true }
def LoadStepsUptoSaid : Prop := loadStepsUptoRow.holds Try.pinned (OpenSpec.upto loadStepsSpec)

/-- 'haulierlaw21.LoadLegs', WHERE WHAT IT READS IS OF BULK AT MOST 1048576: true; the input reads as it did. -/
def loadLegsUptoRow : OpenClaim := { program := "ythajccdaidhdkaa", sum := "00d7bab265b93c0e82e247eea14e4320df403f9410a6699f82991793bbc3386f", func := "haulier/haulierlaw21.LoadLegs", spec := "loadLegs", unfollowed := true, recurses := true, apart := false, narrowed := true }
def LoadLegsUptoSaid : Prop := loadLegsUptoRow.holds Try.pinned (OpenSpec.upto loadLegsSpec)

/-- 'haulierlaw21.LoadEase', WHERE WHAT IT READS IS OF BULK AT MOST 1048576: true; the input reads as it did. -/
def loadEaseUptoRow : OpenClaim := { program := "ythajccdaidhdkaa", sum := "00d7bab265b93c0e82e247eea14e4320df403f9410a6699f82991793bbc3386f", func := "haulier/haulierlaw21.LoadEase", spec := "loadEase", unfollowed := true, recurses := true, apart := false, narrowed := true }
def LoadEaseUptoSaid : Prop := loadEaseUptoRow.holds Try.pinned (OpenSpec.upto loadEaseSpec)

end Rows
end Go.Proofs.Ythajccdaidhdkaa
