/-
  No cell of these rows narrows 'for every input' (looked for: loops, veiled, ifaces, maps, wideKeys, modest, calm, conditions, laid).
  DERIVED. THE GIVEN ROWS OF THIS SEAT. 4 by the template 'for every input the law returns true; each argument reads behind the call as it read before'; 0 by the template 'total and deterministic' (their statements: YtpognhkidocglaaTotals.lean).
  GIVEN WITH THE SEED: the statements are not yours to turn. If you find one false, say at which input.
  Laid BY PROGRAM, IN A SANDBOX (cutbox-rows.mjs): the forced cells as the released guide's own fill.sh prints them over the translation 58bf50b8e41c4373… (all of the seat's roots in one cut). By AI agents, Wed Nov 11 2026. No macro, syntax, notation, axiom, sorry.
-/
import Derived.Test.YtpognhkidocglaaChecked
import GoSem.Claim
import GoSem.ClaimJoined
import GoSem.ClaimMapViews
import Derived.JoinedTies
import Derived.KernelRfl
namespace Go.Proofs.Ytpognhkidocglaa
/- THE CELL 'sum', in the pinned program and in every row, IS THE sha256 OF THE DUMP (.gsa) THAT YtpognhkidocglaaProg.lean LOADS. Nothing in Lean hashes anything: it is a label: what it is worth is what the hold of that sum in a sandbox is worth. -/
noncomputable def Try.pinned : Pinned := { name := "ytpognhkidocglaa", sum := "58bf50b8e41c43739d67181aa9c350034ae6eb65ff33242c2ffa66107eb2be1c", checked := Try.checked }
namespace Rows
def none {H : Type} : Left H := { results := [], args := [] }

/-- 'haulierlaw01.MinuteSums': WHATEVER THE INPUT: true; the input reads as it did. -/
def minuteSumsSpec : ChangeSpec := { name := "minuteSums", fn := fun _ => fun
  | [d] => { results := [.lit (.bool true)], args := [d] }
  | _ => none }
def minuteSumsRow : OpenClaim := { program := "ytpognhkidocglaa", sum := "58bf50b8e41c43739d67181aa9c350034ae6eb65ff33242c2ffa66107eb2be1c", func := "haulier/haulierlaw01.MinuteSums", spec := "minuteSums", apart := false }
def MinuteSumsSaid : Prop := minuteSumsRow.holds Try.pinned (OpenSpec.ofChange minuteSumsSpec)

/-- ITS FALSE NEIGHBOUR: 'it returns false'. Refute it at one input. -/
def minuteSumsWrong : ChangeSpec := { name := "minuteSums", fn := fun _ => fun
  | [d] => { results := [.lit (.bool false)], args := [d] }
  | _ => none }
def MinuteSumsWrongFalsely : Prop := minuteSumsRow.holds Try.pinned (OpenSpec.ofChange minuteSumsWrong)

/-- 'haulierlaw01.MinuteLimits': WHATEVER THE INPUT: true; the input reads as it did. -/
def minuteLimitsSpec : ChangeSpec := { name := "minuteLimits", fn := fun _ => fun
  | [d1, d2, d3] => { results := [.lit (.bool true)], args := [d1, d2, d3] }
  | _ => none }
def minuteLimitsRow : OpenClaim := { program := "ytpognhkidocglaa", sum := "58bf50b8e41c43739d67181aa9c350034ae6eb65ff33242c2ffa66107eb2be1c", func := "haulier/haulierlaw01.MinuteLimits", spec := "minuteLimits", apart := false }
def MinuteLimitsSaid : Prop := minuteLimitsRow.holds Try.pinned (OpenSpec.ofChange minuteLimitsSpec)

/-- ITS FALSE NEIGHBOUR: 'it returns false'. Refute it at one input. -/
def minuteLimitsWrong : ChangeSpec := { name := "minuteLimits", fn := fun _ => fun
  | [d1, d2, d3] => { results := [.lit (.bool false)], args := [d1, d2, d3] }
  | _ => none }
def MinuteLimitsWrongFalsely : Prop := minuteLimitsRow.holds Try.pinned (OpenSpec.ofChange minuteLimitsWrong)

/-- 'haulierlaw01.MinuteReckons': WHATEVER THE INPUT: true; the input reads as it did. -/
def minuteReckonsSpec : ChangeSpec := { name := "minuteReckons", fn := fun _ => fun
  | [d1, d2] => { results := [.lit (.bool true)], args := [d1, d2] }
  | _ => none }
def minuteReckonsRow : OpenClaim := { program := "ytpognhkidocglaa", sum := "58bf50b8e41c43739d67181aa9c350034ae6eb65ff33242c2ffa66107eb2be1c", func := "haulier/haulierlaw01.MinuteReckons", spec := "minuteReckons", apart := false }
def MinuteReckonsSaid : Prop := minuteReckonsRow.holds Try.pinned (OpenSpec.ofChange minuteReckonsSpec)

/-- ITS FALSE NEIGHBOUR: 'it returns false'. Refute it at one input. -/
def minuteReckonsWrong : ChangeSpec := { name := "minuteReckons", fn := fun _ => fun
  | [d1, d2] => { results := [.lit (.bool false)], args := [d1, d2] }
  | _ => none }
def MinuteReckonsWrongFalsely : Prop := minuteReckonsRow.holds Try.pinned (OpenSpec.ofChange minuteReckonsWrong)

/-- 'haulierlaw01.MinuteBack': WHATEVER THE INPUT: true; the input reads as it did. -/
def minuteBackSpec : ChangeSpec := { name := "minuteBack", fn := fun _ => fun
  | [d1, d2] => { results := [.lit (.bool true)], args := [d1, d2] }
  | _ => none }
def minuteBackRow : OpenClaim := { program := "ytpognhkidocglaa", sum := "58bf50b8e41c43739d67181aa9c350034ae6eb65ff33242c2ffa66107eb2be1c", func := "haulier/haulierlaw01.MinuteBack", spec := "minuteBack", apart := false }
def MinuteBackSaid : Prop := minuteBackRow.holds Try.pinned (OpenSpec.ofChange minuteBackSpec)

/-- ITS FALSE NEIGHBOUR: 'it returns false'. Refute it at one input. -/
def minuteBackWrong : ChangeSpec := { name := "minuteBack", fn := fun _ => fun
  | [d1, d2] => { results := [.lit (.bool false)], args := [d1, d2] }
  | _ => none }
def MinuteBackWrongFalsely : Prop := minuteBackRow.holds Try.pinned (OpenSpec.ofChange minuteBackWrong)

/- THE SECOND FORM. 'bulk': how many values and letters a reading holds, each counted each time it is reached (what is shared counts as often as it is met; a slice's spare places count too). A statement '..UptoSaid' is the law's where the arguments, and the package variables that the reading takes, are together of bulk at most 1048576: NARROWER than '..Said'. Prove '..Said' where nothing that the law and all that it calls make is longer than what came in: it says more and counts as full. Else prove '..UptoSaid'. A law counts once. -/
mutual
def uptoBulk {H : Type} : DataW H → Nat
  | .lit (.string bytes) => bytes.length + 1
  | .lit _ => 1
  | .nil => 1
  | .ptr d => uptoBulk d + 1
  | .slice elems spare => uptoBulkAll elems + uptoBulkAll spare + 1
  | .agg parts => uptoBulkAll parts + 1
  | .iface _ d => uptoBulk d + 1
  | .map entries => uptoBulkEntries entries + 1
  | .held _ => 1
def uptoBulkAll {H : Type} : List (DataW H) → Nat
  | [] => 0
  | d :: r => uptoBulk d + uptoBulkAll r
def uptoBulkEntries {H : Type} : List (Lit × DataW H) → Nat
  | [] => 0
  | x :: r => uptoBulkEntry x + uptoBulkEntries r
def uptoBulkEntry {H : Type} : Lit × DataW H → Nat
  | (.string bytes, d) => bytes.length + uptoBulk d + 1
  | (_, d) => uptoBulk d + 1
 end
def uptoSmall : (H : Type) → List (DataW H) → Bool := fun _ ds => decide (uptoBulkAll ds ≤ 1048576)
def OpenSpec.upto (s : _root_.Go.ChangeSpec) : _root_.Go.OpenSpec := { _root_.Go.OpenSpec.ofChange s with cond := some uptoSmall }

/-- 'haulierlaw01.MinuteSums', WHERE WHAT IT READS IS OF BULK AT MOST 1048576: true; the input reads as it did. -/
def minuteSumsUptoRow : OpenClaim := { program := "ytpognhkidocglaa", sum := "58bf50b8e41c43739d67181aa9c350034ae6eb65ff33242c2ffa66107eb2be1c", func := "haulier/haulierlaw01.MinuteSums", spec := "minuteSums", apart := false, narrowed := true }
def MinuteSumsUptoSaid : Prop := minuteSumsUptoRow.holds Try.pinned (OpenSpec.upto minuteSumsSpec)

/-- 'haulierlaw01.MinuteLimits', WHERE WHAT IT READS IS OF BULK AT MOST 1048576: true; the input reads as it did. -/
def minuteLimitsUptoRow : OpenClaim := { program := "ytpognhkidocglaa", sum := "58bf50b8e41c43739d67181aa9c350034ae6eb65ff33242c2ffa66107eb2be1c", func := "haulier/haulierlaw01.MinuteLimits", spec := "minuteLimits", apart := false, narrowed := true }
def MinuteLimitsUptoSaid : Prop := minuteLimitsUptoRow.holds Try.pinned (OpenSpec.upto minuteLimitsSpec)

/-- 'haulierlaw01.MinuteReckons', WHERE WHAT IT READS IS OF BULK AT MOST 1048576: true; the input reads as it did. -/
def minuteReckonsUptoRow : OpenClaim := { program := "ytpognhkidocglaa", sum := "58bf50b8e41c43739d67181aa9c350034ae6eb65ff33242c2ffa66107eb2be1c", func := "haulier/haulierlaw01.MinuteReckons", spec := "minuteReckons", apart := false, narrowed := true }
def MinuteReckonsUptoSaid : Prop := minuteReckonsUptoRow.holds Try.pinned (OpenSpec.upto minuteReckonsSpec)

/-- 'haulierlaw01.MinuteBack', WHERE WHAT IT READS IS OF BULK AT MOST 1048576: true; the input reads as it did. -/
def minuteBackUptoRow : OpenClaim := { program := "ytpognhkidocglaa", sum := "58bf50b8e41c43739d67181aa9c350034ae6eb65ff33242c2ffa66107eb2be1c", func := "haulier/haulierlaw01.MinuteBack", spec := "minuteBack", apart := false, narrowed := true }
def MinuteBackUptoSaid : Prop := minuteBackUptoRow.holds Try.pinned (OpenSpec.upto minuteBackSpec)

end Rows
end Go.Proofs.Ytpognhkidocglaa
