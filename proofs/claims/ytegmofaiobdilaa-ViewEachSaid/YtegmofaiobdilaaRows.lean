/-
  No cell of these rows narrows 'for every input' (looked for: loops, veiled, ifaces, maps, wideKeys, modest, calm, conditions, laid).
  DERIVED. THE GIVEN ROWS OF THIS SEAT. 4 by the template 'for every input the law returns true; each argument reads behind the call as it read before'; 0 by the template 'total and deterministic' (their statements: YtegmofaiobdilaaTotals.lean).
  GIVEN WITH THE SEED: the statements are not yours to turn. If you find one false, say at which input.
  Laid BY PROGRAM, IN A SANDBOX (cutbox-rows.mjs): the forced cells as the released guide's own fill.sh prints them over the translation e10ca09db631d385… (all of the seat's roots in one cut). By AI agents, Wed Nov 11 2026. No macro, syntax, notation, axiom, sorry.
-/
import Derived.Test.YtegmofaiobdilaaChecked
import GoSem.Claim
import GoSem.ClaimJoined
import GoSem.ClaimMapViews
import Derived.JoinedTies
import Derived.KernelRfl
namespace Go.Proofs.Ytegmofaiobdilaa
/- THE CELL 'sum', in the pinned program and in every row, IS THE sha256 OF THE DUMP (.gsa) THAT YtegmofaiobdilaaProg.lean LOADS. Nothing in Lean hashes anything: it is a label: what it is worth is what the hold of that sum in a sandbox is worth. -/
noncomputable def Try.pinned : Pinned := { name := "ytegmofaiobdilaa", sum := "e10ca09db631d385531b01770546ce77a9fb50613ae2869832a33c8c300e5c93", checked := Try.checked }
namespace Rows
def none {H : Type} : Left H := { results := [], args := [] }

/-- 'haulierlaw09.ViewEach': WHATEVER THE INPUT: true; the input reads as it did. -/
def viewEachSpec : ChangeSpec := { name := "viewEach", fn := fun _ => fun
  | [d1, d2] => { results := [.lit (.bool true)], args := [d1, d2] }
  | _ => none }
def viewEachRow : OpenClaim := { program := "ytegmofaiobdilaa", sum := "e10ca09db631d385531b01770546ce77a9fb50613ae2869832a33c8c300e5c93", func := "haulier/haulierlaw09.ViewEach", spec := "viewEach", inPlace := ["internal/abi.NoEscape"], unfollowed := true, recurses := true, apart := false }
def ViewEachSaid : Prop := viewEachRow.holds Try.pinned (OpenSpec.ofChange viewEachSpec)

/-- ITS FALSE NEIGHBOUR: 'it returns false'. Refute it at one input. -/
def viewEachWrong : ChangeSpec := { name := "viewEach", fn := fun _ => fun
  | [d1, d2] => { results := [.lit (.bool false)], args := [d1, d2] }
  | _ => none }
def ViewEachWrongFalsely : Prop := viewEachRow.holds Try.pinned (OpenSpec.ofChange viewEachWrong)

/-- 'haulierlaw09.ViewOf': WHATEVER THE INPUT: true; the input reads as it did. -/
def viewOfSpec : ChangeSpec := { name := "viewOf", fn := fun _ => fun
  | [d1, d2, d3] => { results := [.lit (.bool true)], args := [d1, d2, d3] }
  | _ => none }
def viewOfRow : OpenClaim := { program := "ytegmofaiobdilaa", sum := "e10ca09db631d385531b01770546ce77a9fb50613ae2869832a33c8c300e5c93", func := "haulier/haulierlaw09.ViewOf", spec := "viewOf", inPlace := ["internal/abi.NoEscape", "internal/bytealg.IndexByteString"], unfollowed := true, recurses := true, apart := false }
def ViewOfSaid : Prop := viewOfRow.holds Try.pinned (OpenSpec.ofChange viewOfSpec)

/-- ITS FALSE NEIGHBOUR: 'it returns false'. Refute it at one input. -/
def viewOfWrong : ChangeSpec := { name := "viewOf", fn := fun _ => fun
  | [d1, d2, d3] => { results := [.lit (.bool false)], args := [d1, d2, d3] }
  | _ => none }
def ViewOfWrongFalsely : Prop := viewOfRow.holds Try.pinned (OpenSpec.ofChange viewOfWrong)

/-- 'haulierlaw09.ViewLetters': WHATEVER THE INPUT: true; the input reads as it did. -/
def viewLettersSpec : ChangeSpec := { name := "viewLetters", fn := fun _ => fun
  | [d1, d2, d3] => { results := [.lit (.bool true)], args := [d1, d2, d3] }
  | _ => none }
def viewLettersRow : OpenClaim := { program := "ytegmofaiobdilaa", sum := "e10ca09db631d385531b01770546ce77a9fb50613ae2869832a33c8c300e5c93", func := "haulier/haulierlaw09.ViewLetters", spec := "viewLetters", inPlace := ["internal/abi.NoEscape", "internal/bytealg.IndexByteString"], unfollowed := true, recurses := true, apart := false }
def ViewLettersSaid : Prop := viewLettersRow.holds Try.pinned (OpenSpec.ofChange viewLettersSpec)

/-- ITS FALSE NEIGHBOUR: 'it returns false'. Refute it at one input. -/
def viewLettersWrong : ChangeSpec := { name := "viewLetters", fn := fun _ => fun
  | [d1, d2, d3] => { results := [.lit (.bool false)], args := [d1, d2, d3] }
  | _ => none }
def ViewLettersWrongFalsely : Prop := viewLettersRow.holds Try.pinned (OpenSpec.ofChange viewLettersWrong)

/-- 'haulierlaw09.ViewBack': WHATEVER THE INPUT: true; the input reads as it did. -/
def viewBackSpec : ChangeSpec := { name := "viewBack", fn := fun _ => fun
  | [d1, d2, d3] => { results := [.lit (.bool true)], args := [d1, d2, d3] }
  | _ => none }
def viewBackRow : OpenClaim := { program := "ytegmofaiobdilaa", sum := "e10ca09db631d385531b01770546ce77a9fb50613ae2869832a33c8c300e5c93", func := "haulier/haulierlaw09.ViewBack", spec := "viewBack", inPlace := ["internal/abi.NoEscape", "internal/bytealg.IndexByteString"], unfollowed := true, recurses := true, apart := false }
def ViewBackSaid : Prop := viewBackRow.holds Try.pinned (OpenSpec.ofChange viewBackSpec)

/-- ITS FALSE NEIGHBOUR: 'it returns false'. Refute it at one input. -/
def viewBackWrong : ChangeSpec := { name := "viewBack", fn := fun _ => fun
  | [d1, d2, d3] => { results := [.lit (.bool false)], args := [d1, d2, d3] }
  | _ => none }
def ViewBackWrongFalsely : Prop := viewBackRow.holds Try.pinned (OpenSpec.ofChange viewBackWrong)

/- THE SECOND FORM. 'bulk': how many values and letters a reading holds, each counted each time it is reached (what is shared counts as often as it is met; a slice's spare places count too). A statement '..UptoSaid' is the law's where the arguments, and the package variables that the reading takes, are together of bulk at most 1048576: NARROWER than '..Said'. Prove '..Said' where nothing that the law and all that it calls make is longer than what came in: it says more and counts as full. Else prove '..UptoSaid'. A law counts once. -/
mutual
def uptoBulk {H : Type} : DataW H → Nat
  | .lit (.string bytes) => bytes.length + 1
  | .lit _ => 1
  | .nil => 1
  | .ptr d => uptoBulk d + 1
  | .slice elems spare => uptoBulkAll elems + uptoBulkAll spare + 1
  | .agg parts => uptoBulkAll parts + 1
  | .iface _ d => uptoBulk d + 1
  | .map entries => uptoBulkEntries entries + 1
  | .held _ => 1
def uptoBulkAll {H : Type} : List (DataW H) → Nat
  | [] => 0
  | d :: r => uptoBulk d + uptoBulkAll r
def uptoBulkEntries {H : Type} : List (Lit × DataW H) → Nat
  | [] => 0
  | x :: r => uptoBulkEntry x + uptoBulkEntries r
def uptoBulkEntry {H : Type} : Lit × DataW H → Nat
  | (.string bytes, d) => bytes.length + uptoBulk d + 1
  | (_, d) => uptoBulk d + 1
 end
def uptoSmall : (H : Type) → List (DataW H) → Bool := fun _ ds => decide (uptoBulkAll ds ≤ 1048576)
def OpenSpec.upto (s : _root_.Go.ChangeSpec) : _root_.Go.OpenSpec := { _root_.Go.OpenSpec.ofChange s with cond := some uptoSmall }

/-- 'haulierlaw09.ViewEach', WHERE WHAT IT READS IS OF BULK AT MOST 1048576: true; the input reads as it did. -/
def viewEachUptoRow : OpenClaim := { program := "ytegmofaiobdilaa", sum := "e10ca09db631d385531b01770546ce77a9fb50613ae2869832a33c8c300e5c93", func := "haulier/haulierlaw09.ViewEach", spec := "viewEach", inPlace := ["internal/abi.NoEscape"], unfollowed := true, recurses := true, apart := false, narrowed := true }
def ViewEachUptoSaid : Prop := viewEachUptoRow.holds Try.pinned (OpenSpec.upto viewEachSpec)

/-- 'haulierlaw09.ViewOf', WHERE WHAT IT READS IS OF BULK AT MOST 1048576: true; the input reads as it did. -/
def viewOfUptoRow : OpenClaim := { program := "ytegmofaiobdilaa", sum := "e10ca09db631d385531b01770546ce77a9fb50613ae2869832a33c8c300e5c93", func := "haulier/haulierlaw09.ViewOf", spec := "viewOf", inPlace := ["internal/abi.NoEscape", "internal/bytealg.IndexByteString"], unfollowed := true, recurses := true, apart := false, narrowed := true }
def ViewOfUptoSaid : Prop := viewOfUptoRow.holds Try.pinned (OpenSpec.upto viewOfSpec)

/-- 'haulierlaw09.ViewLetters', WHERE WHAT IT READS IS OF BULK AT MOST 1048576: true; the input reads as it did. -/
def viewLettersUptoRow : OpenClaim := { program := "ytegmofaiobdilaa", sum := "e10ca09db631d385531b01770546ce77a9fb50613ae2869832a33c8c300e5c93", func := "haulier/haulierlaw09.ViewLetters", spec := "viewLetters", inPlace := ["internal/abi.NoEscape", "internal/bytealg.IndexByteString"], unfollowed := true, recurses := true, apart := false, narrowed := true }
def ViewLettersUptoSaid : Prop := viewLettersUptoRow.holds Try.pinned (OpenSpec.upto viewLettersSpec)

/-- 'haulierlaw09.ViewBack', WHERE WHAT IT READS IS OF BULK AT MOST 1048576: true; the input reads as it did. -/
def viewBackUptoRow : OpenClaim := { program := "ytegmofaiobdilaa", sum := "e10ca09db631d385531b01770546ce77a9fb50613ae2869832a33c8c300e5c93", func := "haulier/haulierlaw09.ViewBack", spec := "viewBack", inPlace := ["internal/abi.NoEscape", "internal/bytealg.IndexByteString"], unfollowed := true, recurses := true, apart := false, narrowed := true }
def ViewBackUptoSaid : Prop := viewBackUptoRow.holds Try.pinned (OpenSpec.upto viewBackSpec)

end Rows
end Go.Proofs.Ytegmofaiobdilaa
