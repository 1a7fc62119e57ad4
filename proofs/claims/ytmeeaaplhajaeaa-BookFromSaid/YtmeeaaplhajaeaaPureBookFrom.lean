/- The book of any numbers is as the document says, or the error: for every list of numbers (longer ones than 100: the examples alone). -/
import Derived.Test.YtmeeaaplhajaeaaMBookFromx3
set_option linter.unusedVariables false
set_option linter.unusedSimpArgs false
namespace Go.Proofs.Ytmeeaaplhajaeaa.Pure
open Go.RowKit Go.Proofs.Ytmeeaaplhajaeaa.MBookFrom Go.Proofs.YtmeeaaplhajaeaaW.PrintWords Go.Proofs.YtmeeaaplhajaeaaW.PrintLast

theorem w64 {x : Int} (h0 : -9223372036854775808 ≤ x) (h1 : x ≤ 9223372036854775807) : wrap64 x = x := by
  unfold wrap64
  omega
theorem tmod_nn {a : Int} (h : 0 ≤ a) (b : Int) : Int.tmod a b = a % b := by
  rw [Int.tmod_eq_emod_of_nonneg h]
theorem tdiv_nn {a : Int} (h : 0 ≤ a) (b : Int) : Int.tdiv a b = a / b := by
  rw [Int.tdiv_eq_ediv_of_nonneg h]
theorem ev_succ {α : Type} {g : Nat → Option α} {r : α} (h : Ev (fun k => g (k + 1)) r) : Ev g r := by
  obtain ⟨K, h⟩ := h
  refine ⟨K + 1, fun n hn => ?_⟩
  obtain ⟨m, rfl⟩ : ∃ m, n = m + 1 := ⟨n - 1, by omega⟩
  exact h m (by omega)

def IR (x : Int) : Prop := -9223372036854775808 ≤ x ∧ x ≤ 9223372036854775807
theorem ir_of {x : Int} (h : (Lit.int .i64 x).wf = true) : IR x := by simpa [IR, Lit.wf, IntKind.min, IntKind.max, IntKind.signed, IntKind.bits] using h
theorem rd_drop (xs : List Int) (i : Nat) (h : i < xs.length) : xs.drop i = rd xs (i : Int) :: xs.drop (i + 1) := by
  rw [List.drop_eq_getElem_cons h]
  simp [rd, h]
theorem rd_mem (xs : List Int) (i : Nat) (h : i < xs.length) : rd xs (i : Int) ∈ xs := by
  simp [rd, h]

def ordS (b0 b1 b2 b3 b4 b5 b6 b7 b8 b9 b10 b11 b12 b13 b14 b15 b16 b17 b18 : Int) : Prop := b2 ≤ b1 ∧ b3 ≤ b1 ∧ b1 ≤ b10 ∧ b10 ≤ b8 ∧ b8 ≤ b7 ∧ b7 ≤ b13 ∧ b13 ≤ b12 ∧ b4 ≤ b5 ∧ b8 < b11
instance (b0 b1 b2 b3 b4 b5 b6 b7 b8 b9 b10 b11 b12 b13 b14 b15 b16 b17 b18 : Int) : Decidable (ordS b0 b1 b2 b3 b4 b5 b6 b7 b8 b9 b10 b11 b12 b13 b14 b15 b16 b17 b18) := by unfold ordS; infer_instance
def BV (b0 b1 b2 b3 b4 b5 b6 b7 b8 b9 b10 b11 b12 b13 b14 b15 b16 b17 b18 : Int) : Prop := book_within.rng 0 [b0, b1, b2, b3, b4, b5, b6, b7, b8, b9, b10, b11, b12, b13, b14, b15, b16, b17, b18] = true ∧ ordS b0 b1 b2 b3 b4 b5 b6 b7 b8 b9 b10 b11 b12 b13 b14 b15 b16 b17 b18
instance (b0 b1 b2 b3 b4 b5 b6 b7 b8 b9 b10 b11 b12 b13 b14 b15 b16 b17 b18 : Int) : Decidable (BV b0 b1 b2 b3 b4 b5 b6 b7 b8 b9 b10 b11 b12 b13 b14 b15 b16 b17 b18) := by unfold BV; infer_instance
theorem less_f (a b : Int) : cmp_Less_int.f a b = some (decide (a < b)) := by
  unfold cmp_Less_int.f cmp_isNaN_int.f
  simp
theorem sorted_l0 (l : List Int) (hl : l.length ≤ 1000) : ∀ i : Nat, i < l.length → ∀ r : Bool, (r = true ↔ ∀ j : Nat, j < i → rd l (j : Int) ≤ rd l ((j : Int) + 1)) → Ev (fun k => slices_IsSorted_int_int.l0 k l (i : Int)) r := by
  intro i
  induction i with
  | zero =>
    intro _ r hr
    have : r = true := hr.2 (fun j hj => by omega)
    subst this
    refine ev_succ ?_
    simp only [slices_IsSorted_int_int.l0, if_neg (show ¬ ((0 : Nat) : Int) > 0 by omega)]
    exact Ev.now _
  | succ i ih =>
    intro hi r hr
    have e : ((i + 1 : Nat) : Int) = (i : Int) + 1 := by omega
    refine ev_succ ?_
    simp only [slices_IsSorted_int_int.l0, e, if_pos (show (i : Int) + 1 > 0 by omega), if_pos (show 0 ≤ (i : Int) + 1 by omega), if_pos (show (i : Int) + 1 < (l.length : Int) by omega), Int.add_sub_cancel, w64 (x := (i : Int)) (by omega) (by omega), if_pos (show 0 ≤ (i : Int) by omega), if_pos (show (i : Int) < (l.length : Int) by omega), less_f, Option.bind_some]
    by_cases h : rd l ((i : Int) + 1) < rd l (i : Int)
    · have : r = false := by
        cases r with
        | false => rfl
        | true =>
          have := (hr.1 rfl) i (by omega)
          omega
      subst this
      simp only [decide_eq_true h, if_true]
      exact Ev.now _
    · simp only [decide_eq_false h, if_neg (show ¬ false = true by simp)]
      refine ih (by omega) r ?_
      rw [hr]
      constructor
      · exact fun h2 j hj => h2 j (by omega)
      · intro h2 j hj
        by_cases e2 : j = i
        · subst e2; omega
        · exact h2 j (by omega)
theorem check_f (b0 b1 b2 b3 b4 b5 b6 b7 b8 b9 b10 b11 b12 b13 b14 b15 b16 b17 b18 : Int) : Ev (fun k => book_Check.f k b0 b1 b2 b3 b4 b5 b6 b7 b8 b9 b10 b11 b12 b13 b14 b15 b16 b17 b18) (if BV b0 b1 b2 b3 b4 b5 b6 b7 b8 b9 b10 b11 b12 b13 b14 b15 b16 b17 b18 then 0 else 14) := by
  unfold book_Check.f book_within.f
  simp only [Option.bind_some]
  by_cases hw : book_within.rng 0 [b0, b1, b2, b3, b4, b5, b6, b7, b8, b9, b10, b11, b12, b13, b14, b15, b16, b17, b18] = true
  · simp only [hw, if_true]
    have hs : Ev (fun k => slices_IsSorted_int_int.f k [mx b2 b3, b1, b10, b8, b7, b13, b12]) (decide (b2 ≤ b1 ∧ b3 ≤ b1 ∧ b1 ≤ b10 ∧ b10 ≤ b8 ∧ b8 ≤ b7 ∧ b7 ≤ b13 ∧ b13 ≤ b12)) := by
      unfold slices_IsSorted_int_int.f
      have e : wrap64 (([mx b2 b3, b1, b10, b8, b7, b13, b12].length : Int) - 1) = ((6 : Nat) : Int) := by show wrap64 ((7 : Int) - 1) = 6; exact (w64 (by omega) (by omega)).trans (by omega)
      rw [e]
      refine sorted_l0 _ (by simp) 6 (by simp) _ ?_
      rw [decide_eq_true_iff]
      constructor
      · rintro ⟨h1, h2, h3, h4, h5, h6, h7⟩ j hj
        have : j = 0 ∨ j = 1 ∨ j = 2 ∨ j = 3 ∨ j = 4 ∨ j = 5 := by omega
        rcases this with rfl | rfl | rfl | rfl | rfl | rfl
        · show mx b2 b3 ≤ b1
          unfold mx; split <;> omega
        · exact h3
        · exact h4
        · exact h5
        · exact h6
        · exact h7
      · intro h
        have h0 : mx b2 b3 ≤ b1 := h 0 (by omega)
        unfold mx at h0
        refine ⟨?_, ?_, h 1 (by omega), h 2 (by omega), h 3 (by omega), h 4 (by omega), h 5 (by omega)⟩
        · split at h0 <;> omega
        · split at h0 <;> omega
    refine Ev.bind hs ?_
    by_cases ho : b2 ≤ b1 ∧ b3 ≤ b1 ∧ b1 ≤ b10 ∧ b10 ≤ b8 ∧ b8 ≤ b7 ∧ b7 ≤ b13 ∧ b13 ≤ b12
    · simp only [decide_eq_true ho, if_true]
      by_cases h1 : b4 > b5
      · simp only [if_pos h1]
        rw [if_neg (fun h => by have := h.2; unfold ordS at this; omega)]
        exact Ev.now _
      · by_cases h2 : b8 ≥ b11
        · simp only [if_neg h1, if_pos h2]
          rw [if_neg (fun h => by have := h.2; unfold ordS at this; omega)]
          exact Ev.now _
        · simp only [if_neg h1, if_neg h2]
          rw [if_pos ⟨hw, by unfold ordS; omega⟩]
          exact Ev.now _
    · simp only [decide_eq_false ho, if_neg (show ¬ false = true by simp)]
      rw [if_neg (fun h => ho (by have := h.2; unfold ordS at this; omega))]
      exact Ev.now _
  · simp only [hw, if_neg (show ¬ false = true by simp)]
    rw [if_neg (fun h => hw h.1)]
    exact Ev.now _

theorem may_l0 (xs : List Int) (hx : xs.length = 19) (b0 b1 b2 b3 b4 b5 b6 b7 b8 b9 b10 b11 b12 b13 b14 b15 b16 b17 b18 : Int) (d : Nat) : ∀ i : Nat, i + d = 19 → Ev (fun k => haulierref07_May.l0 k xs (i : Int) b0 b1 b2 b3 b4 b5 b6 b7 b8 b9 b10 b11 b12 b13 b14 b15 b16 b17 b18) (decide (book_within.rng (i : Int) (xs.drop i) = true ∧ ordS b0 b1 b2 b3 b4 b5 b6 b7 b8 b9 b10 b11 b12 b13 b14 b15 b16 b17 b18)) := by
  induction d with
  | zero =>
    intro i hi
    have : i = 19 := by omega
    subst this
    refine ev_succ ?_
    rw [List.drop_of_length_le (by omega)]
    simp only [haulierref07_May.l0, book_within.rng, true_and, if_neg (show ¬ ((19 : Nat) : Int) < 19 by omega)]
    by_cases h1 : b2 > b1
    · simp only [if_pos h1]; rw [decide_eq_false (show ¬ ordS b0 b1 b2 b3 b4 b5 b6 b7 b8 b9 b10 b11 b12 b13 b14 b15 b16 b17 b18 by unfold ordS; omega)]; exact Ev.now _
    by_cases h2 : b3 > b1
    · simp only [if_neg h1, if_pos h2]; rw [decide_eq_false (show ¬ ordS b0 b1 b2 b3 b4 b5 b6 b7 b8 b9 b10 b11 b12 b13 b14 b15 b16 b17 b18 by unfold ordS; omega)]; exact Ev.now _
    by_cases h3 : b1 > b10
    · simp only [if_neg h1, if_neg h2, if_pos h3]; rw [decide_eq_false (show ¬ ordS b0 b1 b2 b3 b4 b5 b6 b7 b8 b9 b10 b11 b12 b13 b14 b15 b16 b17 b18 by unfold ordS; omega)]; exact Ev.now _
    by_cases h4 : b10 > b8
    · simp only [if_neg h1, if_neg h2, if_neg h3, if_pos h4]; rw [decide_eq_false (show ¬ ordS b0 b1 b2 b3 b4 b5 b6 b7 b8 b9 b10 b11 b12 b13 b14 b15 b16 b17 b18 by unfold ordS; omega)]; exact Ev.now _
    by_cases h5 : b8 > b7
    · simp only [if_neg h1, if_neg h2, if_neg h3, if_neg h4, if_pos h5]; rw [decide_eq_false (show ¬ ordS b0 b1 b2 b3 b4 b5 b6 b7 b8 b9 b10 b11 b12 b13 b14 b15 b16 b17 b18 by unfold ordS; omega)]; exact Ev.now _
    by_cases h6 : b7 ≤ b13
    · by_cases h7 : b13 ≤ b12
      · by_cases h8 : b4 ≤ b5
        · simp only [if_neg h1, if_neg h2, if_neg h3, if_neg h4, if_neg h5, if_pos h6, if_pos h7, if_pos h8]
          by_cases h9 : b8 < b11
          · rw [decide_eq_true h9, decide_eq_true (show ordS b0 b1 b2 b3 b4 b5 b6 b7 b8 b9 b10 b11 b12 b13 b14 b15 b16 b17 b18 by unfold ordS; omega)]; exact Ev.now _
          · rw [decide_eq_false h9, decide_eq_false (show ¬ ordS b0 b1 b2 b3 b4 b5 b6 b7 b8 b9 b10 b11 b12 b13 b14 b15 b16 b17 b18 by unfold ordS; omega)]; exact Ev.now _
        · simp only [if_neg h1, if_neg h2, if_neg h3, if_neg h4, if_neg h5, if_pos h6, if_pos h7, if_neg h8]; rw [decide_eq_false (show ¬ ordS b0 b1 b2 b3 b4 b5 b6 b7 b8 b9 b10 b11 b12 b13 b14 b15 b16 b17 b18 by unfold ordS; omega)]; exact Ev.now _
      · simp only [if_neg h1, if_neg h2, if_neg h3, if_neg h4, if_neg h5, if_pos h6, if_neg h7]; rw [decide_eq_false (show ¬ ordS b0 b1 b2 b3 b4 b5 b6 b7 b8 b9 b10 b11 b12 b13 b14 b15 b16 b17 b18 by unfold ordS; omega)]; exact Ev.now _
    · simp only [if_neg h1, if_neg h2, if_neg h3, if_neg h4, if_neg h5, if_neg h6]; rw [decide_eq_false (show ¬ ordS b0 b1 b2 b3 b4 b5 b6 b7 b8 b9 b10 b11 b12 b13 b14 b15 b16 b17 b18 by unfold ordS; omega)]; exact Ev.now _
  | succ d ih =>
    intro i hi
    have h := ih (i + 1) (by omega)
    rw [show (((i + 1 : Nat) : Int)) = (i : Int) + 1 by omega] at h
    rw [rd_drop xs i (by omega)]
    refine ev_succ ?_
    simp only [haulierref07_May.l0, book_within.rng, if_pos (show (i : Int) < 19 by omega), if_pos (show 0 ≤ (i : Int) by omega), hx, if_pos (show (i : Int) < ((19 : Nat) : Int) by omega), w64 (x := (i : Int) + 1) (by omega) (by omega)]
    have fin : ∀ lo hi : Int, book_within.lo (i : Int) = lo → book_within.hi (i : Int) = hi → Ev (fun k => if rd xs (i : Int) < lo then some false else if rd xs (i : Int) > hi then some false else haulierref07_May.l0 k xs ((i : Int) + 1) b0 b1 b2 b3 b4 b5 b6 b7 b8 b9 b10 b11 b12 b13 b14 b15 b16 b17 b18) (decide ((!decide (rd xs (i : Int) < book_within.lo (i : Int)) && !decide (book_within.hi (i : Int) < rd xs (i : Int)) && book_within.rng ((i : Int) + 1) (xs.drop (i + 1))) = true ∧ ordS b0 b1 b2 b3 b4 b5 b6 b7 b8 b9 b10 b11 b12 b13 b14 b15 b16 b17 b18)) := by
      intro lo hi e1 e2
      rw [e1, e2]
      by_cases g1 : rd xs (i : Int) < lo
      · simp only [if_pos g1]
        rw [decide_eq_false (by rw [decide_eq_true g1]; simp)]
        exact Ev.now _
      · by_cases g2 : rd xs (i : Int) > hi
        · simp only [if_neg g1, if_pos g2]
          rw [decide_eq_false (by rw [decide_eq_true (show hi < rd xs (i : Int) from g2)]; simp)]
          exact Ev.now _
        · simp only [if_neg g1, if_neg g2]
          rw [decide_eq_false g1, decide_eq_false (show ¬ hi < rd xs (i : Int) from g2)]
          simp only [Bool.not_false, Bool.true_and]
          exact h
    by_cases h6 : (i : Int) = 6
    · simp only [if_pos h6]
      exact fin 0 1000 (by unfold book_within.lo; rw [if_pos (Or.inl h6)]) (by unfold book_within.hi; rw [if_pos (Or.inl h6)])
    · by_cases h9 : (i : Int) = 9
      · simp only [if_neg h6, if_pos h9]
        exact fin 0 1000 (by unfold book_within.lo; rw [if_pos (Or.inr h9)]) (by unfold book_within.hi; rw [if_pos (Or.inr h9)])
      · simp only [if_neg h6, if_neg h9]
        exact fin 1 40320 (by unfold book_within.lo; rw [if_neg (by omega)]) (by unfold book_within.hi; rw [if_neg (by omega)])
theorem may_f (b0 b1 b2 b3 b4 b5 b6 b7 b8 b9 b10 b11 b12 b13 b14 b15 b16 b17 b18 : Int) : Ev (fun k => haulierref07_May.f k b0 b1 b2 b3 b4 b5 b6 b7 b8 b9 b10 b11 b12 b13 b14 b15 b16 b17 b18) (decide (BV b0 b1 b2 b3 b4 b5 b6 b7 b8 b9 b10 b11 b12 b13 b14 b15 b16 b17 b18)) := by
  unfold haulierref07_May.f haulierref07_Numbers.f
  simp only [Option.bind_some]
  exact may_l0 [b0, b1, b2, b3, b4, b5, b6, b7, b8, b9, b10, b11, b12, b13, b14, b15, b16, b17, b18] rfl b0 b1 b2 b3 b4 b5 b6 b7 b8 b9 b10 b11 b12 b13 b14 b15 b16 b17 b18 19 0 (by omega)

theorem alive07_f : Ev (fun k => haulierlaw07_alive.f k) true := by
  refine Ev.of (k := 60) haulierlaw07_alive.mono ?_
  decide +kernel

theorem len19 (l : List Int) (h : l.length = 19) : ∃ b0 b1 b2 b3 b4 b5 b6 b7 b8 b9 b10 b11 b12 b13 b14 b15 b16 b17 b18 : Int, l = [b0, b1, b2, b3, b4, b5, b6, b7, b8, b9, b10, b11, b12, b13, b14, b15, b16, b17, b18] := by
  match l, h with
  | [b0, b1, b2, b3, b4, b5, b6, b7, b8, b9, b10, b11, b12, b13, b14, b15, b16, b17, b18], _ => exact ⟨b0, b1, b2, b3, b4, b5, b6, b7, b8, b9, b10, b11, b12, b13, b14, b15, b16, b17, b18, rfl⟩
theorem BookFrom : haulierlaw07_BookFrom.Pure := by
  intro l _ _ _
  refine Ev.rounds ?_
  unfold haulierlaw07_BookFrom.f
  by_cases h1 : 100 < l.length
  · simp only [if_pos h1]
    exact alive07_f
  · by_cases h2 : l.length = 19
    · obtain ⟨b0, b1, b2, b3, b4, b5, b6, b7, b8, b9, b10, b11, b12, b13, b14, b15, b16, b17, b18, rfl⟩ := len19 l h2
      simp only [if_neg h1, if_pos h2]
      refine Ev.bind (may_f b0 b1 b2 b3 b4 b5 b6 b7 b8 b9 b10 b11 b12 b13 b14 b15 b16 b17 b18) (Ev.bind (check_f b0 b1 b2 b3 b4 b5 b6 b7 b8 b9 b10 b11 b12 b13 b14 b15 b16 b17 b18) ?_)
      by_cases h : BV b0 b1 b2 b3 b4 b5 b6 b7 b8 b9 b10 b11 b12 b13 b14 b15 b16 b17 b18
      · simp only [decide_eq_true h, if_pos h, and_self, true_or, if_true]
        exact alive07_f
      · simp only [decide_eq_false h, if_neg h, and_self, or_true, if_true]
        exact alive07_f
    · simp only [if_neg h1, if_neg h2]
      exact alive07_f


end Go.Proofs.Ytmeeaaplhajaeaa.Pure
