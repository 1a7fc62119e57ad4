/-
  No cell of these rows narrows 'for every input' (looked for: loops, veiled, ifaces, maps, wideKeys, modest, calm, conditions, laid).
  DERIVED. THE GIVEN ROWS OF THIS SEAT. 4 by the template 'for every input the law returns true; each argument reads behind the call as it read before'; 0 by the template 'total and deterministic' (their statements: YtlkoapcaboinaaaTotals.lean).
  GIVEN WITH THE SEED: the statements are not yours to turn. If you find one false, say at which input.
  Laid BY PROGRAM, IN A SANDBOX (cutbox-rows.mjs): the forced cells as the released guide's own fill.sh prints them over the translation 4e61dec09e62d61d… (all of the seat's roots in one cut). By AI agents, Wed Nov 11 2026. No macro, syntax, notation, axiom, sorry.
-/
import Derived.Test.YtlkoapcaboinaaaChecked
import GoSem.Claim
import GoSem.ClaimJoined
import GoSem.ClaimMapViews
import Derived.JoinedTies
import Derived.KernelRfl
namespace Go.Proofs.Ytlkoapcaboinaaa
/- THE CELL 'sum', in the pinned program and in every row, IS THE sha256 OF THE DUMP (.gsa) THAT YtlkoapcaboinaaaProg.lean LOADS. Nothing in Lean hashes anything: it is a label: what it is worth is what the hold of that sum in a sandbox is worth. -/
noncomputable def Try.pinned : Pinned := { name := "ytlkoapcaboinaaa", sum := "4e61dec09e62d61d728875e9218a65fe80fe523a9fcee84141b98bc556a0fa1c", checked := Try.checked }
namespace Rows
def none {H : Type} : Left H := { results := [], args := [] }

/-- 'haulierlaw12.SpellWorth': WHATEVER THE INPUT: true; the input reads as it did. -/
def spellWorthSpec : ChangeSpec := { name := "spellWorth", fn := fun _ => fun
  | [d1, d2] => { results := [.lit (.bool true)], args := [d1, d2] }
  | _ => none }
def spellWorthRow : OpenClaim := { program := "ytlkoapcaboinaaa", sum := "4e61dec09e62d61d728875e9218a65fe80fe523a9fcee84141b98bc556a0fa1c", func := "haulier/haulierlaw12.SpellWorth", spec := "spellWorth", unfollowed := true, recurses := true, apart := false }
def SpellWorthSaid : Prop := spellWorthRow.holds Try.pinned (OpenSpec.ofChange spellWorthSpec)

/-- ITS FALSE NEIGHBOUR: 'it returns false'. Refute it at one input. -/
def spellWorthWrong : ChangeSpec := { name := "spellWorth", fn := fun _ => fun
  | [d1, d2] => { results := [.lit (.bool false)], args := [d1, d2] }
  | _ => none }
def SpellWorthWrongFalsely : Prop := spellWorthRow.holds Try.pinned (OpenSpec.ofChange spellWorthWrong)

/-- 'haulierlaw12.SpellLonger': WHATEVER THE INPUT: true; the input reads as it did. -/
def spellLongerSpec : ChangeSpec := { name := "spellLonger", fn := fun _ => fun
  | [d1, d2] => { results := [.lit (.bool true)], args := [d1, d2] }
  | _ => none }
def spellLongerRow : OpenClaim := { program := "ytlkoapcaboinaaa", sum := "4e61dec09e62d61d728875e9218a65fe80fe523a9fcee84141b98bc556a0fa1c", func := "haulier/haulierlaw12.SpellLonger", spec := "spellLonger", unfollowed := true, recurses := true, apart := false }
def SpellLongerSaid : Prop := spellLongerRow.holds Try.pinned (OpenSpec.ofChange spellLongerSpec)

/-- ITS FALSE NEIGHBOUR: 'it returns false'. Refute it at one input. -/
def spellLongerWrong : ChangeSpec := { name := "spellLonger", fn := fun _ => fun
  | [d1, d2] => { results := [.lit (.bool false)], args := [d1, d2] }
  | _ => none }
def SpellLongerWrongFalsely : Prop := spellLongerRow.holds Try.pinned (OpenSpec.ofChange spellLongerWrong)

/-- 'haulierlaw12.SpellLatest': WHATEVER THE INPUT: true; the input reads as it did. -/
def spellLatestSpec : ChangeSpec := { name := "spellLatest", fn := fun _ => fun
  | [d1, d2] => { results := [.lit (.bool true)], args := [d1, d2] }
  | _ => none }
def spellLatestRow : OpenClaim := { program := "ytlkoapcaboinaaa", sum := "4e61dec09e62d61d728875e9218a65fe80fe523a9fcee84141b98bc556a0fa1c", func := "haulier/haulierlaw12.SpellLatest", spec := "spellLatest", unfollowed := true, recurses := true, apart := false }
def SpellLatestSaid : Prop := spellLatestRow.holds Try.pinned (OpenSpec.ofChange spellLatestSpec)

/-- ITS FALSE NEIGHBOUR: 'it returns false'. Refute it at one input. -/
def spellLatestWrong : ChangeSpec := { name := "spellLatest", fn := fun _ => fun
  | [d1, d2] => { results := [.lit (.bool false)], args := [d1, d2] }
  | _ => none }
def SpellLatestWrongFalsely : Prop := spellLatestRow.holds Try.pinned (OpenSpec.ofChange spellLatestWrong)

/-- 'haulierlaw12.SpellBegins': WHATEVER THE INPUT: true; the input reads as it did. -/
def spellBeginsSpec : ChangeSpec := { name := "spellBegins", fn := fun _ => fun
  | [d1, d2] => { results := [.lit (.bool true)], args := [d1, d2] }
  | _ => none }
def spellBeginsRow : OpenClaim := { program := "ytlkoapcaboinaaa", sum := "4e61dec09e62d61d728875e9218a65fe80fe523a9fcee84141b98bc556a0fa1c", func := "haulier/haulierlaw12.SpellBegins", spec := "spellBegins", unfollowed := true, recurses := true, apart := false }
def SpellBeginsSaid : Prop := spellBeginsRow.holds Try.pinned (OpenSpec.ofChange spellBeginsSpec)

/-- ITS FALSE NEIGHBOUR: 'it returns false'. Refute it at one input. -/
def spellBeginsWrong : ChangeSpec := { name := "spellBegins", fn := fun _ => fun
  | [d1, d2] => { results := [.lit (.bool false)], args := [d1, d2] }
  | _ => none }
def SpellBeginsWrongFalsely : Prop := spellBeginsRow.holds Try.pinned (OpenSpec.ofChange spellBeginsWrong)

/- THE SECOND FORM. 'bulk': how many values and letters a reading holds, each counted each time it is reached (what is shared counts as often as it is met; a slice's spare places count too). A statement '..UptoSaid' is the law's where the arguments, and the package variables that the reading takes, are together of bulk at most 1048576: NARROWER than '..Said'. Prove '..Said' where nothing that the law and all that it calls make is longer than what came in: it says more and counts as full. Else prove '..UptoSaid'. A law counts once. -/
mutual
def uptoBulk {H : Type} : DataW H → Nat
  | .lit (.string bytes) => bytes.length + 1
  | .lit _ => 1
  | .nil => 1
  | .ptr d => uptoBulk d + 1
  | .slice elems spare => uptoBulkAll elems + uptoBulkAll spare + 1
  | .agg parts => uptoBulkAll parts + 1
  | .iface _ d => uptoBulk d + 1
  | .map entries => uptoBulkEntries entries + 1
  | .held _ => 1
def uptoBulkAll {H : Type} : List (DataW H) → Nat
  | [] => 0
  | d :: r => uptoBulk d + uptoBulkAll r
def uptoBulkEntries {H : Type} : List (Lit × DataW H) → Nat
  | [] => 0
  | x :: r => uptoBulkEntry x + uptoBulkEntries r
def uptoBulkEntry {H : Type} : Lit × DataW H → Nat
  | (.string bytes, d) => bytes.length + uptoBulk d + 1
  | (_, d) => uptoBulk d + 1
 end
def uptoSmall : (H : Type) → List (DataW H) → Bool := fun _ ds => decide (uptoBulkAll ds ≤ 1048576)
def OpenSpec.upto (s : _root_.Go.ChangeSpec) : _root_.Go.OpenSpec := { _root_.Go.OpenSpec.ofChange s with cond := some uptoSmall }

/-- 'haulierlaw12.SpellWorth', WHERE WHAT IT READS IS OF BULK AT MOST 1048576: true; the input reads as it did. -/
def spellWorthUptoRow : OpenClaim := { program := "ytlkoapcaboinaaa", sum := "4e61dec09e62d61d728875e9218a65fe80fe523a9fcee84141b98bc556a0fa1c", func := "haulier/haulierlaw12.SpellWorth", spec := "spellWorth", unfollowed := true, recurses := true, apart := false, narrowed := true }
def SpellWorthUptoSaid : Prop := spellWorthUptoRow.holds Try.pinned (OpenSpec.upto spellWorthSpec)

/-- 'haulierlaw12.SpellLonger', WHERE WHAT IT READS IS OF BULK AT MOST 1048576: true; the input reads as it did. -/
def spellLongerUptoRow : OpenClaim := { program := "ytlkoapcaboinaaa", sum := "4e61dec09e62d61d728875e9218a65fe80fe523a9fcee84141b98bc556a0fa1c", func := "haulier/haulierlaw12.SpellLonger", spec := "spellLonger", unfollowed := true, recurses := true, apart := false, narrowed := true }
def SpellLongerUptoSaid : Prop := spellLongerUptoRow.holds Try.pinned (OpenSpec.upto spellLongerSpec)

/-- 'haulierlaw12.SpellLatest', WHERE WHAT IT READS IS OF BULK AT MOST 1048576: true; the input reads as it did. -/
def spellLatestUptoRow : OpenClaim := { program := "ytlkoapcaboinaaa", sum := "4e61dec09e62d61d728875e9218a65fe80fe523a9fcee84141b98bc556a0fa1c", func := "haulier/haulierlaw12.SpellLatest", spec := "spellLatest", unfollowed := true, recurses := true, apart := false, narrowed := true }
def SpellLatestUptoSaid : Prop := spellLatestUptoRow.holds Try.pinned (OpenSpec.upto spellLatestSpec)

/-- 'haulierlaw12.SpellBegins', WHERE WHAT IT READS IS OF BULK AT MOST 1048576: true; the input reads as it did. -/
def spellBeginsUptoRow : OpenClaim := { program := "ytlkoapcaboinaaa", sum := "4e61dec09e62d61d728875e9218a65fe80fe523a9fcee84141b98bc556a0fa1c", func := "haulier/haulierlaw12.SpellBegins", spec := "spellBegins", unfollowed := true, recurses := true, apart := false, narrowed := true }
def SpellBeginsUptoSaid : Prop := spellBeginsUptoRow.holds Try.pinned (OpenSpec.upto spellBeginsSpec)

end Rows
end Go.Proofs.Ytlkoapcaboinaaa
