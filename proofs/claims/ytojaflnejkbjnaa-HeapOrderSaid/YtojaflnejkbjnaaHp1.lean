/- container/heap's steps over the program's rows of items: the row's own methods. -/
import Derived.Test.YtojaflnejkbjnaaMItemLessx1
import Derived.Test.YtojaflnejkbjnaaWN
import Derived.Test.YtojaflnejkbjnaaWNEv
import Derived.Test.YtojaflnejkbjnaaWGuard
import Derived.BigRegion
import Derived.RegionTactic
import Derived.Deep.LoopGhost
import Derived.RowKit3
namespace Go.Proofs.Ytojaflnejkbjnaa.Hp1
open Go.RowKit Go.Proofs.YtojaflnejkbjnaaW.PrintWords Go.Proofs.YtojaflnejkbjnaaW.PrintLast Go.Proofs.YtojaflnejkbjnaaW.PrintMore Go.Proofs.Ytojaflnejkbjnaa.MItemLess
attribute [local go_sem] max2_int min2_int max_two min_two max_three min_three max_four min_four
set_option linter.unusedVariables false
set_option linter.unusedSimpArgs false
abbrev It := Int × Int × Int
abbrev kdi : Kd It := Kd.pair (Kd.int .i64) (Kd.pair (Kd.int .i64) (Kd.int .i64))
def lt3 (x y : It) : Bool := if x.1 = y.1 then (if x.2.1 = y.2.1 then decide (x.2.2 < y.2.2) else decide (x.2.1 < y.2.1)) else decide (x.1 < y.1)
def cmp3 (a b : Int) : Int := if a < b then -1 else if a > b then 1 else 0
theorem cmp_f (a b : Int) : cmp_Compare_int.f a b = some (cmp3 a b) := by
  unfold cmp_Compare_int.f cmp_isNaN_int.f cmp3
  simp only [bne_self_eq_false, Option.bind_some, Bool.false_eq_true, if_false]
  split
  · rfl
  · split <;> rfl
theorem w64 {x : Int} (h0 : -9223372036854775808 ≤ x) (h1 : x ≤ 9223372036854775807) : wrap64 x = x := by
  unfold wrap64
  omega
theorem or_f (a b c : Int) : cmp_Or_int.f 4 [a, b, c] = some (if a = 0 then (if b = 0 then c else b) else a) := by
  have r0 : ∀ a b c : Int, rd [a, b, c] 0 = a := fun _ _ _ => rfl
  have r1 : ∀ a b c : Int, rd [a, b, c] 1 = b := fun _ _ _ => rfl
  have r2 : ∀ a b c : Int, rd [a, b, c] 2 = c := fun _ _ _ => rfl
  have w1 : wrap64 1 = 1 := w64 (by omega) (by omega)
  have w2 : wrap64 2 = 2 := w64 (by omega) (by omega)
  have w3 : wrap64 3 = 3 := w64 (by omega) (by omega)
  unfold cmp_Or_int.f
  by_cases h1 : a = 0
  · by_cases h2 : b = 0
    · by_cases h3 : c = 0
      · simp [cmp_Or_int.l0, w1, w2, w3, r0, r1, r2, h1, h2, h3]
      · simp [cmp_Or_int.l0, w1, w2, w3, r0, r1, r2, h1, h2, h3]
    · simp [cmp_Or_int.l0, w1, w2, w3, r0, r1, r2, h1, h2]
  · simp [cmp_Or_int.l0, w1, w2, w3, r0, r1, r2, h1]
theorem less_f (x y : It) : heap_Item_less.f 4 x.1 x.2.1 x.2.2 y.1 y.2.1 y.2.2 = some (lt3 x y) := by
  unfold heap_Item_less.f
  simp only [cmp_f, Option.bind_some, or_f]
  have key : ∀ a b : Int, (a < b ∧ cmp3 a b = -1) ∨ (a = b ∧ cmp3 a b = 0) ∨ (a > b ∧ cmp3 a b = 1) := by
    intro a b
    unfold cmp3
    by_cases h1 : a < b
    · exact .inl ⟨h1, if_pos h1⟩
    · by_cases h2 : a > b
      · exact .inr (.inr ⟨h2, by rw [if_neg h1, if_pos h2]⟩)
      · exact .inr (.inl ⟨by omega, by rw [if_neg h1, if_neg h2]⟩)
  congr 1
  unfold lt3
  rcases key x.1 y.1 with ⟨g1, e1⟩ | ⟨g1, e1⟩ | ⟨g1, e1⟩
  · rw [e1, if_neg (show ¬ x.1 = y.1 by omega), decide_eq_true g1]
    rfl
  · rw [e1, if_pos g1]
    rcases key x.2.1 y.2.1 with ⟨g2, e2⟩ | ⟨g2, e2⟩ | ⟨g2, e2⟩
    · rw [e2, if_neg (show ¬ x.2.1 = y.2.1 by omega), decide_eq_true g2]
      rfl
    · rw [e2, if_pos g2]
      rcases key x.2.2 y.2.2 with ⟨g3, e3⟩ | ⟨g3, e3⟩ | ⟨g3, e3⟩
      · rw [e3, decide_eq_true g3]
        rfl
      · rw [e3, decide_eq_false (show ¬ x.2.2 < y.2.2 by omega)]
        rfl
      · rw [e3, decide_eq_false (show ¬ x.2.2 < y.2.2 by omega)]
        rfl
    · rw [e2, if_neg (show ¬ x.2.1 = y.2.1 by omega), decide_eq_false (show ¬ x.2.1 < y.2.1 by omega)]
      rfl
  · rw [e1, if_neg (show ¬ x.1 = y.1 by omega), decide_eq_false (show ¬ x.1 < y.1 by omega)]
    rfl
theorem less20 (x y : It) (w : World) : Calls Try.prog 20 #[.agg #[.int .i64 x.1, .int .i64 x.2.1, .int .i64 x.2.2], .agg #[.int .i64 y.1, .int .i64 y.2.1, .int .i64 y.2.2]] w fun e w' => e = .returned (.bool (lt3 x y)) ∧ Below w.heap.size w w' :=
  heap_Item_less.calls 4 _ _ _ _ _ _ _ w (less_f x y)
end Go.Proofs.Ytojaflnejkbjnaa.Hp1
