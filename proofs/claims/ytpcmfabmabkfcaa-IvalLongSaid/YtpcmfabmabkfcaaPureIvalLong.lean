/- How long a span is, where it lies when it is shifted, and which of two comes first, is what the reference says, or the error: for all spans and numbers of 64 bits. -/
import Derived.Test.YtpcmfabmabkfcaaMIvalLongx4
set_option linter.unusedVariables false
set_option linter.unusedSimpArgs false
namespace Go.Proofs.Ytpcmfabmabkfcaa.Pure
open Go.RowKit Go.Proofs.Ytpcmfabmabkfcaa.MIvalLong Go.Proofs.YtpcmfabmabkfcaaW.PrintWords Go.Proofs.YtpcmfabmabkfcaaW.PrintLast

theorem w64 {x : Int} (h0 : -9223372036854775808 ≤ x) (h1 : x ≤ 9223372036854775807) : wrap64 x = x := by
  unfold wrap64
  omega
theorem tmod_nn {a : Int} (h : 0 ≤ a) (b : Int) : Int.tmod a b = a % b := by
  rw [Int.tmod_eq_emod_of_nonneg h]
theorem tdiv_nn {a : Int} (h : 0 ≤ a) (b : Int) : Int.tdiv a b = a / b := by
  rw [Int.tdiv_eq_ediv_of_nonneg h]
theorem ev_succ {α : Type} {g : Nat → Option α} {r : α} (h : Ev (fun k => g (k + 1)) r) : Ev g r := by
  obtain ⟨K, h⟩ := h
  refine ⟨K + 1, fun n hn => ?_⟩
  obtain ⟨m, rfl⟩ : ∃ m, n = m + 1 := ⟨n - 1, by omega⟩
  exact h m (by omega)

def IR (x : Int) : Prop := -9223372036854775808 ≤ x ∧ x ≤ 9223372036854775807
theorem ir_of {x : Int} (h : (Lit.int .i64 x).wf = true) : IR x := by simpa [IR, Lit.wf, IntKind.min, IntKind.max, IntKind.signed, IntKind.bits] using h
theorem rd_drop (xs : List Int) (i : Nat) (h : i < xs.length) : xs.drop i = rd xs (i : Int) :: xs.drop (i + 1) := by
  rw [List.drop_eq_getElem_cons h]
  simp [rd, h]
theorem rd_mem (xs : List Int) (i : Nat) (h : i < xs.length) : rd xs (i : Int) ∈ xs := by
  simp [rd, h]

def addS : List Int → Int → Int × Int
  | [], n => (n, 0)
  | x :: l, n => if n + x > 9223372036854775807 ∨ n + x < -9223372036854775808 then (0, 19) else addS l (n + x)
theorem madd_l0 (l : List Int) (hl : l.length ≤ 140737488351232) (hr : ∀ x ∈ l, IR x) (d : Nat) : ∀ (i : Nat) (n : Int), i + d = l.length → IR n →
    Ev (fun k => minute_Add.l0 k n l (l.length : Int) (i : Int)) (addS (l.drop i) n) := by
  induction d with
  | zero =>
    intro i n hi hn
    rw [List.drop_of_length_le (by omega)]
    refine ev_succ ?_
    simp only [minute_Add.l0, if_neg (show ¬ (i : Int) < (l.length : Int) by omega)]
    exact Ev.now _
  | succ d ih =>
    intro i n hi hn
    rw [rd_drop l i (by omega)]
    have hx := hr _ (rd_mem l i (by omega))
    refine ev_succ ?_
    simp only [minute_Add.l0, addS]
    simp only [if_pos (show (i : Int) < (l.length : Int) by omega), if_pos (show (0 : Int) ≤ (i : Int) by omega), w64 (x := (i : Int) + 1) (by omega) (by omega)]
    have h := ih (i + 1) (n + rd l (i : Int)) (by omega)
    rw [show (((i + 1 : Nat) : Int)) = (i : Int) + 1 by omega] at h
    generalize rd l (i : Int) = x at hx h
    unfold IR at hn hx h
    by_cases ho : n + x > 9223372036854775807 ∨ n + x < -9223372036854775808
    · simp only [if_pos ho]
      by_cases hx0 : x > 0
      · simp only [if_pos hx0, w64 (x := 9223372036854775807 - x) (by omega) (by omega), if_pos (show n > 9223372036854775807 - x by omega)]
        exact Ev.now _
      · simp only [if_neg hx0, if_pos (show x < 0 by omega), w64 (x := -9223372036854775808 - x) (by omega) (by omega), if_pos (show n < -9223372036854775808 - x by omega)]
        exact Ev.now _
    · simp only [if_neg ho, w64 (x := n + x) (by omega) (by omega)]
      by_cases hx0 : x > 0
      · simp only [if_pos hx0, w64 (x := 9223372036854775807 - x) (by omega) (by omega), if_neg (show ¬ n > 9223372036854775807 - x by omega), if_neg (show ¬ x < 0 by omega)]
        exact h (by omega)
      · by_cases hx1 : x < 0
        · simp only [if_neg hx0, if_pos hx1, w64 (x := -9223372036854775808 - x) (by omega) (by omega), if_neg (show ¬ n < -9223372036854775808 - x by omega)]
          exact h (by omega)
        · simp only [if_neg hx0, if_neg hx1]
          exact h (by omega)
theorem madd_f (l : List Int) (hl : l.length ≤ 140737488351232) (hr : ∀ x ∈ l, IR x) : Ev (fun k => minute_Add.f k l) (addS l 0) := by
  unfold minute_Add.f
  exact madd_l0 l hl hr l.length 0 0 (by omega) (by unfold IR; omega)

def twoS (a b : Int) : Int × Int := if a + b > 9223372036854775807 ∨ a + b < -9223372036854775808 then (0, 19) else (a + b, 0)
theorem addS_two (a b : Int) (ha : IR a) : addS [a, b] 0 = twoS a b := by
  unfold IR at ha
  simp only [addS, twoS]
  rw [if_neg (by omega), Int.zero_add]
theorem madd_two (a b : Int) (ha : IR a) (hb : IR b) : Ev (fun k => minute_Add.f k [a, b]) (twoS a b) := by
  rw [← addS_two a b ha]
  refine madd_f _ (by simp) ?_
  intro x hx
  simp only [List.mem_cons, List.not_mem_nil, or_false] at hx
  rcases hx with rfl | rfl <;> assumption

theorem two_f (a b : Int) (ha : IR a) (hb : IR b) : haulierref01_Two.f a b = some (twoS a b) := by
  unfold IR at *
  unfold haulierref01_Two.f twoS
  by_cases h : a + b > 9223372036854775807 ∨ a + b < -9223372036854775808
  · rw [if_pos h]
    by_cases hx0 : b > 0
    · rw [if_pos hx0, w64 (x := 9223372036854775807 - b) (by omega) (by omega), if_pos (by omega)]
    · rw [if_neg hx0, if_pos (by omega), w64 (x := -9223372036854775808 - b) (by omega) (by omega), if_pos (by omega)]
  · rw [if_neg h, w64 (x := a + b) (by omega) (by omega)]
    by_cases hx0 : b > 0
    · rw [if_pos hx0, w64 (x := 9223372036854775807 - b) (by omega) (by omega), if_neg (by omega), if_neg (by omega)]
    · rw [if_neg hx0]
      split
      · rw [w64 (x := -9223372036854775808 - b) (by omega) (by omega), if_neg (by omega)]
      · rfl

def subS (a b : Int) : Int × Int := if a - b > 9223372036854775807 ∨ a - b < -9223372036854775808 then (0, 19) else (a - b, 0)
theorem sub_f (a b : Int) (ha : IR a) (hb : IR b) : minute_Sub.f a b = some (subS a b) := by
  unfold IR at *
  unfold minute_Sub.f subS
  by_cases h : a - b > 9223372036854775807 ∨ a - b < -9223372036854775808
  · rw [if_pos h, if_pos]
    simp only [bne_iff_ne, ne_eq, decide_eq_decide]
    unfold wrap64
    omega
  · rw [if_neg h, w64 (by omega) (by omega), if_neg]
    simp only [bne_iff_ne, ne_eq, decide_eq_decide]
    omega

theorem rsub_f (a b : Int) (ha : IR a) (hb : IR b) : haulierref01_Sub.f a b = some (subS a b) := by
  unfold IR at *
  unfold haulierref01_Sub.f subS
  by_cases h : a - b > 9223372036854775807 ∨ a - b < -9223372036854775808
  · rw [if_pos h]
    by_cases hx0 : b < 0
    · rw [if_pos hx0, w64 (x := 9223372036854775807 + b) (by omega) (by omega), if_pos (by omega)]
    · rw [if_neg hx0, if_pos (by omega), w64 (x := -9223372036854775808 + b) (by omega) (by omega), if_pos (by omega)]
  · rw [if_neg h, w64 (x := a - b) (by omega) (by omega)]
    by_cases hx0 : b < 0
    · rw [if_pos hx0, w64 (x := 9223372036854775807 + b) (by omega) (by omega), if_neg (by omega), if_neg (by omega)]
    · rw [if_neg hx0]
      split
      · rw [w64 (x := -9223372036854775808 + b) (by omega) (by omega), if_neg (by omega)]
      · rfl

def bothS (a b c d : Int) : Int × Int × Bool := if mx a c < mn b d then (mx a c, mn b d, true) else (0, 0, false)
theorem both_f (a b c d : Int) : ival_Both.f a b c d = some (bothS a b c d) := by
  unfold ival_Both.f ival_Right.f bothS
  simp only [Option.bind_some, decide_eq_true_eq]
  split <;> rfl
theorem meets_f (a b c d : Int) : ival_Meets.f a b c d = some (decide (mx a c < mn b d)) := by
  unfold ival_Meets.f
  rw [both_f]
  simp only [Option.bind_some, bothS]
  by_cases h : mx a c < mn b d
  · simp only [if_pos h, h, decide_true, Option.some.injEq, Bool.or_eq_true]
    by_cases e : mx a c = 0
    · right
      have : mn b d ≠ 0 := by omega
      simp [this]
    · left
      simp [e]
  · simp [if_neg h, h]
theorem ialive_f : haulierlaw02_alive.f = some true := by
  unfold haulierlaw02_alive.f
  rw [both_f, meets_f]
  rfl

def cmpS (a b : Int) : Int := if a < b then -1 else if a > b then 1 else 0
theorem cmp_f (a b : Int) : cmp_Compare_int.f a b = some (cmpS a b) := by
  unfold cmp_Compare_int.f cmp_isNaN_int.f cmpS
  simp only [Option.bind_some, bne_self_eq_false, if_neg (show ¬ false = true by simp)]
  split
  · rfl
  · split <;> rfl
def orS (l : List Int) : Int := (l.find? (fun x => x ≠ 0)).getD 0
theorem or_l0 (l : List Int) (hl : l.length ≤ 140737488351232) (d : Nat) : ∀ i : Nat, i + d = l.length → Ev (fun k => cmp_Or_int.l0 k 0 l (l.length : Int) (i : Int)) (orS (l.drop i)) := by
  induction d with
  | zero =>
    intro i hi
    rw [List.drop_of_length_le (by omega)]
    refine ev_succ ?_
    simp only [cmp_Or_int.l0, if_neg (show ¬ (i : Int) < (l.length : Int) by omega)]
    exact Ev.now _
  | succ d ih =>
    intro i hi
    rw [rd_drop l i (by omega)]
    have h := ih (i + 1) (by omega)
    refine ev_succ ?_
    simp only [cmp_Or_int.l0, if_pos (show (i : Int) < (l.length : Int) by omega), if_pos (show (0 : Int) ≤ (i : Int) by omega), w64 (x := (i : Int) + 1) (by omega) (by omega)]
    by_cases h0 : rd l (i : Int) = 0
    · simp only [if_pos h0]
      unfold orS
      rw [List.find?_cons_of_neg (by simp [h0])]
      exact h
    · simp only [if_neg h0]
      unfold orS
      rw [List.find?_cons_of_pos (by simp [h0])]
      exact Ev.now _
theorem or_f (l : List Int) (hl : l.length ≤ 140737488351232) : Ev (fun k => cmp_Or_int.f k l) (orS l) := by
  unfold cmp_Or_int.f
  exact or_l0 l hl l.length 0 (by omega)

def ordS (a b c d : Int) : Int := orS [cmpS a c, cmpS b d]
theorem order_f (a b c d : Int) : Ev (fun k => ival_Order.f k a b c d) (ordS a b c d) := by
  unfold ival_Order.f
  simp only [cmp_f, Option.bind_some]
  exact Ev.bind (or_f _ (by simp)) (Ev.now _)
theorem ordS_eq (a b c d : Int) : ordS a b c d = if a < c then -1 else if a > c then 1 else if b < d then -1 else if b > d then 1 else 0 := by
  unfold ordS orS cmpS
  by_cases h1 : a < c
  · simp [h1]
  · by_cases h2 : a > c
    · simp [h1, h2]
    · simp only [if_neg h1, if_neg h2]
      by_cases h3 : b < d
      · simp [h3]
      · by_cases h4 : b > d
        · simp [h3, h4]
        · simp [h3, h4]

theorem IvalLong : haulierlaw02_IvalLong.Pure := by
  intro a b c d n ha hb hc hd hn
  have ha := ir_of ha
  have hb := ir_of hb
  have hn := ir_of hn
  refine Ev.rounds ?_
  unfold haulierlaw02_IvalLong.f
  have hL : ival_Long.f a b = some (if a < b then subS b a else (0, 3)) := by
    unfold ival_Long.f ival_Right.f
    simp only [Option.bind_some, decide_eq_true_eq]
    split
    · rw [sub_f b a hb ha]; rfl
    · rfl
  have hR : haulierref02_Long.f a b = some (if a < b then subS b a else (0, 3)) := by
    unfold haulierref02_Long.f haulierref02_Right.f
    simp only [Option.bind_some, decide_eq_true_eq]
    split
    · rw [rsub_f b a hb ha]; rfl
    · rfl
  simp only [hL, hR, Option.bind_some, if_true]
  have hS : Ev (fun k => ival_Shift.f k a b n) (if a < b then (if (twoS a n).2 = 0 ∧ (twoS b n).2 = 0 then ((twoS a n).1, (twoS b n).1, 0) else (0, 0, 19)) else (0, 0, 3)) := by
    unfold ival_Shift.f ival_Right.f
    simp only [Option.bind_some, decide_eq_true_eq]
    by_cases h : a < b
    · simp only [if_pos h]
      refine Ev.bind (madd_two a n ha hn) ?_
      by_cases h1 : (twoS a n).2 = 0
      · simp only [if_pos h1]
        refine Ev.bind (madd_two b n hb hn) ?_
        by_cases h2 : (twoS b n).2 = 0
        · simp only [if_pos h2, h1, true_and, if_true]
          exact Ev.now _
        · have h3 : (twoS b n).2 = 19 := by
            unfold twoS at h2 ⊢
            split at h2
            · rw [if_pos (by assumption)]
            · exact absurd rfl h2
          simp only [if_neg h2, if_neg (show ¬ ((twoS a n).2 = 0 ∧ (twoS b n).2 = 0) from fun h => h2 h.2)]
          rw [h3]
          exact Ev.now _
      · have h3 : (twoS a n).2 = 19 := by
          unfold twoS at h1 ⊢
          split at h1
          · rw [if_pos (by assumption)]
          · exact absurd rfl h1
        simp only [if_neg h1, if_neg (show ¬ ((twoS a n).2 = 0 ∧ (twoS b n).2 = 0) from fun h => h1 h.1)]
        rw [h3]
        exact Ev.now _
    · simp only [if_neg h]
      exact Ev.now _
  have hT : haulierref02_Shift.f a b n = some (if a < b then (if (twoS a n).2 = 0 ∧ (twoS b n).2 = 0 then ((twoS a n).1, (twoS b n).1, 0) else (0, 0, 19)) else (0, 0, 3)) := by
    unfold haulierref02_Shift.f haulierref02_Right.f
    simp only [Option.bind_some, decide_eq_true_eq, two_f a n ha hn, two_f b n hb hn]
    by_cases h : a < b
    · simp only [if_pos h]
      by_cases h1 : (twoS a n).2 = 0
      · by_cases h2 : (twoS b n).2 = 0
        · simp only [if_pos h1, if_pos h2, h1, h2, and_self, if_true]
        · simp only [if_pos h1, if_neg h2, h2, and_false, if_false]
      · simp only [if_neg h1, h1, false_and, if_false]
    · simp only [if_neg h]
  refine Ev.bind hS ?_
  simp only [hT, Option.bind_some, beq_self_eq_true, Bool.and_self, if_true]
  refine Ev.bind (order_f a b c d) ?_
  have hO : haulierref02_Order.f a b c d = some (ordS a b c d) := by
    unfold haulierref02_Order.f
    rw [ordS_eq]
    simp only [Bool.and_eq_true, beq_iff_eq]
    by_cases h1 : a = c
    · subst h1
      by_cases h2 : b = d
      · subst h2; simp
      · by_cases h3 : b < d
        · simp [h2, h3]
        · have h4 : b > d := by omega
          simp [h2, h3, h4]
    · rw [if_neg (fun h => h1 h.1)]
      by_cases h3 : a < c
      · rw [if_pos h3, if_pos h3]
      · rw [if_neg h3, if_neg h3, if_neg h1, if_pos (by omega)]
  simp only [hO, Option.bind_some, if_true, ialive_f]
  exact Ev.now _


end Go.Proofs.Ytpcmfabmabkfcaa.Pure
