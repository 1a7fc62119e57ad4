/- A minute is in what two spans have in common just if it is in both; what holds both holds each minute of one; the order of two is the other way round for the two exchanged: for all spans and minutes of 64 bits. -/
import Derived.Test.YtpcmfabmabkfcaaMIvalMinutesx3
set_option linter.unusedVariables false
set_option linter.unusedSimpArgs false
namespace Go.Proofs.Ytpcmfabmabkfcaa.Pure
open Go.RowKit Go.Proofs.Ytpcmfabmabkfcaa.MIvalMinutes Go.Proofs.YtpcmfabmabkfcaaW.PrintWords Go.Proofs.YtpcmfabmabkfcaaW.PrintLast

theorem w64 {x : Int} (h0 : -9223372036854775808 ≤ x) (h1 : x ≤ 9223372036854775807) : wrap64 x = x := by
  unfold wrap64
  omega
theorem tmod_nn {a : Int} (h : 0 ≤ a) (b : Int) : Int.tmod a b = a % b := by
  rw [Int.tmod_eq_emod_of_nonneg h]
theorem tdiv_nn {a : Int} (h : 0 ≤ a) (b : Int) : Int.tdiv a b = a / b := by
  rw [Int.tdiv_eq_ediv_of_nonneg h]
theorem ev_succ {α : Type} {g : Nat → Option α} {r : α} (h : Ev (fun k => g (k + 1)) r) : Ev g r := by
  obtain ⟨K, h⟩ := h
  refine ⟨K + 1, fun n hn => ?_⟩
  obtain ⟨m, rfl⟩ : ∃ m, n = m + 1 := ⟨n - 1, by omega⟩
  exact h m (by omega)

def IR (x : Int) : Prop := -9223372036854775808 ≤ x ∧ x ≤ 9223372036854775807
theorem ir_of {x : Int} (h : (Lit.int .i64 x).wf = true) : IR x := by simpa [IR, Lit.wf, IntKind.min, IntKind.max, IntKind.signed, IntKind.bits] using h
theorem rd_drop (xs : List Int) (i : Nat) (h : i < xs.length) : xs.drop i = rd xs (i : Int) :: xs.drop (i + 1) := by
  rw [List.drop_eq_getElem_cons h]
  simp [rd, h]
theorem rd_mem (xs : List Int) (i : Nat) (h : i < xs.length) : rd xs (i : Int) ∈ xs := by
  simp [rd, h]

def hasS (a b m : Int) : Bool := decide (a ≤ m) && decide (m < b)
theorem has_f (a b m : Int) : ival_Has.f a b m = some (hasS a b m) := by
  unfold ival_Has.f hasS
  by_cases h : a ≤ m
  · rw [if_pos h]; simp [h]
  · rw [if_neg h]; simp [h]

def bothS (a b c d : Int) : Int × Int × Bool := if mx a c < mn b d then (mx a c, mn b d, true) else (0, 0, false)
theorem both_f (a b c d : Int) : ival_Both.f a b c d = some (bothS a b c d) := by
  unfold ival_Both.f ival_Right.f bothS
  simp only [Option.bind_some, decide_eq_true_eq]
  split <;> rfl
theorem meets_f (a b c d : Int) : ival_Meets.f a b c d = some (decide (mx a c < mn b d)) := by
  unfold ival_Meets.f
  rw [both_f]
  simp only [Option.bind_some, bothS]
  by_cases h : mx a c < mn b d
  · simp only [if_pos h, h, decide_true, Option.some.injEq, Bool.or_eq_true]
    by_cases e : mx a c = 0
    · right
      have : mn b d ≠ 0 := by omega
      simp [this]
    · left
      simp [e]
  · simp [if_neg h, h]
theorem ialive_f : haulierlaw02_alive.f = some true := by
  unfold haulierlaw02_alive.f
  rw [both_f, meets_f]
  rfl

def hullS (a b c d : Int) : Int × Int × Bool := if a < b ∧ c < d then (mn a c, mx b d, true) else (0, 0, false)
theorem hull_f (a b c d : Int) : ival_Hull.f a b c d = some (hullS a b c d) := by
  unfold ival_Hull.f ival_Right.f hullS
  simp only [Option.bind_some, decide_eq_true_eq]
  by_cases h1 : a < b
  · by_cases h2 : c < d
    · rw [if_pos h1, if_pos h2, if_pos ⟨h1, h2⟩]
    · rw [if_pos h1, if_neg h2, if_neg (fun h => h2 h.2)]
  · rw [if_neg h1, if_neg (fun h => h1 h.1)]

def cmpS (a b : Int) : Int := if a < b then -1 else if a > b then 1 else 0
theorem cmp_f (a b : Int) : cmp_Compare_int.f a b = some (cmpS a b) := by
  unfold cmp_Compare_int.f cmp_isNaN_int.f cmpS
  simp only [Option.bind_some, bne_self_eq_false, if_neg (show ¬ false = true by simp)]
  split
  · rfl
  · split <;> rfl
def orS (l : List Int) : Int := (l.find? (fun x => x ≠ 0)).getD 0
theorem or_l0 (l : List Int) (hl : l.length ≤ 140737488351232) (d : Nat) : ∀ i : Nat, i + d = l.length → Ev (fun k => cmp_Or_int.l0 k 0 l (l.length : Int) (i : Int)) (orS (l.drop i)) := by
  induction d with
  | zero =>
    intro i hi
    rw [List.drop_of_length_le (by omega)]
    refine ev_succ ?_
    simp only [cmp_Or_int.l0, if_neg (show ¬ (i : Int) < (l.length : Int) by omega)]
    exact Ev.now _
  | succ d ih =>
    intro i hi
    rw [rd_drop l i (by omega)]
    have h := ih (i + 1) (by omega)
    refine ev_succ ?_
    simp only [cmp_Or_int.l0, if_pos (show (i : Int) < (l.length : Int) by omega), if_pos (show (0 : Int) ≤ (i : Int) by omega), w64 (x := (i : Int) + 1) (by omega) (by omega)]
    by_cases h0 : rd l (i : Int) = 0
    · simp only [if_pos h0]
      unfold orS
      rw [List.find?_cons_of_neg (by simp [h0])]
      exact h
    · simp only [if_neg h0]
      unfold orS
      rw [List.find?_cons_of_pos (by simp [h0])]
      exact Ev.now _
theorem or_f (l : List Int) (hl : l.length ≤ 140737488351232) : Ev (fun k => cmp_Or_int.f k l) (orS l) := by
  unfold cmp_Or_int.f
  exact or_l0 l hl l.length 0 (by omega)

def ordS (a b c d : Int) : Int := orS [cmpS a c, cmpS b d]
theorem order_f (a b c d : Int) : Ev (fun k => ival_Order.f k a b c d) (ordS a b c d) := by
  unfold ival_Order.f
  simp only [cmp_f, Option.bind_some]
  exact Ev.bind (or_f _ (by simp)) (Ev.now _)
theorem ordS_eq (a b c d : Int) : ordS a b c d = if a < c then -1 else if a > c then 1 else if b < d then -1 else if b > d then 1 else 0 := by
  unfold ordS orS cmpS
  by_cases h1 : a < c
  · simp [h1]
  · by_cases h2 : a > c
    · simp [h1, h2]
    · simp only [if_neg h1, if_neg h2]
      by_cases h3 : b < d
      · simp [h3]
      · by_cases h4 : b > d
        · simp [h3, h4]
        · simp [h3, h4]

theorem im_j1 (is : Bool) (a b c d : Int) (h : is = (decide (a < b) && decide (c < d))) : Ev (fun k => haulierlaw02_IvalMinutes.j1 k is false a b c d) true := by
  refine ev_succ ?_
  have ho : ordS a b c d = wrap64 (-ordS c d a b) := by
    rw [w64 (by rw [ordS_eq]; repeat' split <;> omega) (by rw [ordS_eq]; repeat' split <;> omega), ordS_eq, ordS_eq]
    repeat' split <;> omega
  simp only [haulierlaw02_IvalMinutes.j1, ival_Right.f, Option.bind_some, decide_eq_true_eq, if_neg (show ¬ false = true by simp)]
  by_cases h1 : a < b
  · simp only [if_pos h1, h, h1, decide_true, Bool.true_and, beq_self_eq_true, if_true]
    refine Ev.bind (order_f _ _ _ _) ?_
    refine Ev.bind (order_f _ _ _ _) ?_
    simp only [if_pos ho, ialive_f, Option.bind_some]
    exact Ev.now _
  · simp only [if_neg h1, h, h1, decide_false, Bool.false_and, beq_self_eq_true, if_true]
    refine Ev.bind (order_f _ _ _ _) ?_
    refine Ev.bind (order_f _ _ _ _) ?_
    simp only [if_pos ho, ialive_f, Option.bind_some]
    exact Ev.now _
theorem im_j0 (m a b c d : Int) : Ev (fun k => haulierlaw02_IvalMinutes.j0 k m (hasS a b m) (hasS c d m) false a b c d) true := by
  refine ev_succ ?_
  simp only [haulierlaw02_IvalMinutes.j0, hull_f, Option.bind_some, if_neg (show ¬ false = true by simp), has_f]
  by_cases h : a < b ∧ c < d
  · have hS : hullS a b c d = (mn a c, mx b d, true) := by unfold hullS; rw [if_pos h]
    have hj := im_j1 true a b c d (by simp [h.1, h.2])
    simp only [hS, if_true]
    by_cases h1 : hasS a b m = true
    · have h2 : hasS (mn a c) (mx b d) m = true := by
        simp only [hasS, Bool.and_eq_true, decide_eq_true_eq] at h1 ⊢
        unfold mn mx
        constructor <;> split <;> omega
      simp only [if_pos h1, h2, Bool.not_true]
      exact hj
    · simp only [if_neg h1]
      by_cases h3 : hasS c d m = true
      · have h2 : hasS (mn a c) (mx b d) m = true := by
          simp only [hasS, Bool.and_eq_true, decide_eq_true_eq] at h3 ⊢
          unfold mn mx
          constructor <;> split <;> omega
        simp only [if_pos h3, h2, Bool.not_true]
        exact hj
      · simp only [if_neg h3]
        exact hj
  · have hS : hullS a b c d = (0, 0, false) := by unfold hullS; rw [if_neg h]
    simp only [hS, if_neg (show ¬ false = true by simp)]
    refine im_j1 false a b c d ?_
    rw [Decidable.not_and_iff_or_not] at h
    rcases h with h | h <;> simp [h]
theorem IvalMinutes : haulierlaw02_IvalMinutes.Pure := by
  intro a b c d m _ _ _ _ _
  refine Ev.rounds ?_
  have hj := im_j0 m a b c d
  unfold haulierlaw02_IvalMinutes.f
  simp only [has_f, both_f, Option.bind_some, ival_Right.f]
  by_cases h : mx a c < mn b d
  · have hS : bothS a b c d = (mx a c, mn b d, true) := by unfold bothS; rw [if_pos h]
    have hH : hasS (mx a c) (mn b d) m = (hasS a b m && hasS c d m) := by
      rw [Bool.eq_iff_iff]
      simp only [hasS, Bool.and_eq_true, decide_eq_true_eq]
      unfold mn mx
      constructor
      · intro h0
        repeat' split at h0 <;> omega
      · intro h0
        constructor <;> split <;> omega
    simp only [hS, if_true, hH, h, decide_true, bne_self_eq_false]
    by_cases h1 : hasS a b m = true
    · simp only [h1, if_true, Bool.true_and, bne_self_eq_false, if_neg (show ¬ false = true by simp)]
      rw [h1] at hj
      exact hj
    · have h1 : hasS a b m = false := by simpa using h1
      simp only [h1, if_neg (show ¬ false = true by simp), Bool.false_and, bne_self_eq_false]
      rw [h1] at hj
      exact hj
  · have hS : bothS a b c d = (0, 0, false) := by unfold bothS; rw [if_neg h]
    have hH : (hasS a b m && hasS c d m) = false := by
      rw [Bool.eq_false_iff]
      intro h0
      apply h
      simp only [hasS, Bool.and_eq_true, decide_eq_true_eq] at h0
      unfold mn mx
      repeat' split <;> omega
    simp only [hS, if_neg (show ¬ false = true by simp), show decide ((0 : Int) < 0) = false by decide, bne_self_eq_false]
    by_cases h1 : hasS a b m = true
    · have h2 : hasS c d m = false := by simpa [h1] using hH
      simp only [h1, h2, if_true, bne_self_eq_false, if_neg (show ¬ false = true by simp)]
      rw [h1, h2] at hj
      exact hj
    · have h1 : hasS a b m = false := by simpa using h1
      simp only [h1, if_neg (show ¬ false = true by simp)]
      rw [h1] at hj
      exact hj


end Go.Proofs.Ytpcmfabmabkfcaa.Pure
