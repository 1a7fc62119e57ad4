/- A spell of rest that goes on for a minute is a break, a daily and a weekly rest still, if it was; a daily one that was not reduced is not reduced then: for every book and every spell that ends by the last minute but one. -/
import Derived.Test.YtlkoapcaboinaaaMSpellLongerx4
set_option linter.unusedVariables false
set_option linter.unusedSimpArgs false
namespace Go.Proofs.Ytlkoapcaboinaaa.Pure
open Go.RowKit Go.Proofs.Ytlkoapcaboinaaa.MSpellLonger Go.Proofs.YtlkoapcaboinaaaW.PrintWords Go.Proofs.YtlkoapcaboinaaaW.PrintLast

theorem w64 {x : Int} (h0 : -9223372036854775808 ≤ x) (h1 : x ≤ 9223372036854775807) : wrap64 x = x := by
  unfold wrap64
  omega
theorem tmod_nn {a : Int} (h : 0 ≤ a) (b : Int) : Int.tmod a b = a % b := by
  rw [Int.tmod_eq_emod_of_nonneg h]
theorem tdiv_nn {a : Int} (h : 0 ≤ a) (b : Int) : Int.tdiv a b = a / b := by
  rw [Int.tdiv_eq_ediv_of_nonneg h]
theorem ev_succ {α : Type} {g : Nat → Option α} {r : α} (h : Ev (fun k => g (k + 1)) r) : Ev g r := by
  obtain ⟨K, h⟩ := h
  refine ⟨K + 1, fun n hn => ?_⟩
  obtain ⟨m, rfl⟩ : ∃ m, n = m + 1 := ⟨n - 1, by omega⟩
  exact h m (by omega)

def IR (x : Int) : Prop := -9223372036854775808 ≤ x ∧ x ≤ 9223372036854775807
theorem ir_of {x : Int} (h : (Lit.int .i64 x).wf = true) : IR x := by simpa [IR, Lit.wf, IntKind.min, IntKind.max, IntKind.signed, IntKind.bits] using h
theorem rd_drop (xs : List Int) (i : Nat) (h : i < xs.length) : xs.drop i = rd xs (i : Int) :: xs.drop (i + 1) := by
  rw [List.drop_eq_getElem_cons h]
  simp [rd, h]
theorem rd_mem (xs : List Int) (i : Nat) (h : i < xs.length) : rd xs (i : Int) ∈ xs := by
  simp [rd, h]

def ordS (b0 b1 b2 b3 b4 b5 b6 b7 b8 b9 b10 b11 b12 b13 b14 b15 b16 b17 b18 : Int) : Prop := b2 ≤ b1 ∧ b3 ≤ b1 ∧ b1 ≤ b10 ∧ b10 ≤ b8 ∧ b8 ≤ b7 ∧ b7 ≤ b13 ∧ b13 ≤ b12 ∧ b4 ≤ b5 ∧ b8 < b11
instance (b0 b1 b2 b3 b4 b5 b6 b7 b8 b9 b10 b11 b12 b13 b14 b15 b16 b17 b18 : Int) : Decidable (ordS b0 b1 b2 b3 b4 b5 b6 b7 b8 b9 b10 b11 b12 b13 b14 b15 b16 b17 b18) := by unfold ordS; infer_instance
def BV (b0 b1 b2 b3 b4 b5 b6 b7 b8 b9 b10 b11 b12 b13 b14 b15 b16 b17 b18 : Int) : Prop := book_within.rng 0 [b0, b1, b2, b3, b4, b5, b6, b7, b8, b9, b10, b11, b12, b13, b14, b15, b16, b17, b18] = true ∧ ordS b0 b1 b2 b3 b4 b5 b6 b7 b8 b9 b10 b11 b12 b13 b14 b15 b16 b17 b18
instance (b0 b1 b2 b3 b4 b5 b6 b7 b8 b9 b10 b11 b12 b13 b14 b15 b16 b17 b18 : Int) : Decidable (BV b0 b1 b2 b3 b4 b5 b6 b7 b8 b9 b10 b11 b12 b13 b14 b15 b16 b17 b18) := by unfold BV; infer_instance
theorem less_f (a b : Int) : cmp_Less_int.f a b = some (decide (a < b)) := by
  unfold cmp_Less_int.f cmp_isNaN_int.f
  simp
theorem sorted_l0 (l : List Int) (hl : l.length ≤ 1000) : ∀ i : Nat, i < l.length → ∀ r : Bool, (r = true ↔ ∀ j : Nat, j < i → rd l (j : Int) ≤ rd l ((j : Int) + 1)) → Ev (fun k => slices_IsSorted_int_int.l0 k l (i : Int)) r := by
  intro i
  induction i with
  | zero =>
    intro _ r hr
    have : r = true := hr.2 (fun j hj => by omega)
    subst this
    refine ev_succ ?_
    simp only [slices_IsSorted_int_int.l0, if_neg (show ¬ ((0 : Nat) : Int) > 0 by omega)]
    exact Ev.now _
  | succ i ih =>
    intro hi r hr
    have e : ((i + 1 : Nat) : Int) = (i : Int) + 1 := by omega
    refine ev_succ ?_
    simp only [slices_IsSorted_int_int.l0, e, if_pos (show (i : Int) + 1 > 0 by omega), if_pos (show 0 ≤ (i : Int) + 1 by omega), if_pos (show (i : Int) + 1 < (l.length : Int) by omega), Int.add_sub_cancel, w64 (x := (i : Int)) (by omega) (by omega), if_pos (show 0 ≤ (i : Int) by omega), if_pos (show (i : Int) < (l.length : Int) by omega), less_f, Option.bind_some]
    by_cases h : rd l ((i : Int) + 1) < rd l (i : Int)
    · have : r = false := by
        cases r with
        | false => rfl
        | true =>
          have := (hr.1 rfl) i (by omega)
          omega
      subst this
      simp only [decide_eq_true h, if_true]
      exact Ev.now _
    · simp only [decide_eq_false h, if_neg (show ¬ false = true by simp)]
      refine ih (by omega) r ?_
      rw [hr]
      constructor
      · exact fun h2 j hj => h2 j (by omega)
      · intro h2 j hj
        by_cases e2 : j = i
        · subst e2; omega
        · exact h2 j (by omega)
theorem check_f (b0 b1 b2 b3 b4 b5 b6 b7 b8 b9 b10 b11 b12 b13 b14 b15 b16 b17 b18 : Int) : Ev (fun k => book_Check.f k b0 b1 b2 b3 b4 b5 b6 b7 b8 b9 b10 b11 b12 b13 b14 b15 b16 b17 b18) (if BV b0 b1 b2 b3 b4 b5 b6 b7 b8 b9 b10 b11 b12 b13 b14 b15 b16 b17 b18 then 0 else 14) := by
  unfold book_Check.f book_within.f
  simp only [Option.bind_some]
  by_cases hw : book_within.rng 0 [b0, b1, b2, b3, b4, b5, b6, b7, b8, b9, b10, b11, b12, b13, b14, b15, b16, b17, b18] = true
  · simp only [hw, if_true]
    have hs : Ev (fun k => slices_IsSorted_int_int.f k [mx b2 b3, b1, b10, b8, b7, b13, b12]) (decide (b2 ≤ b1 ∧ b3 ≤ b1 ∧ b1 ≤ b10 ∧ b10 ≤ b8 ∧ b8 ≤ b7 ∧ b7 ≤ b13 ∧ b13 ≤ b12)) := by
      unfold slices_IsSorted_int_int.f
      have e : wrap64 (([mx b2 b3, b1, b10, b8, b7, b13, b12].length : Int) - 1) = ((6 : Nat) : Int) := by show wrap64 ((7 : Int) - 1) = 6; exact (w64 (by omega) (by omega)).trans (by omega)
      rw [e]
      refine sorted_l0 _ (by simp) 6 (by simp) _ ?_
      rw [decide_eq_true_iff]
      constructor
      · rintro ⟨h1, h2, h3, h4, h5, h6, h7⟩ j hj
        have : j = 0 ∨ j = 1 ∨ j = 2 ∨ j = 3 ∨ j = 4 ∨ j = 5 := by omega
        rcases this with rfl | rfl | rfl | rfl | rfl | rfl
        · show mx b2 b3 ≤ b1
          unfold mx; split <;> omega
        · exact h3
        · exact h4
        · exact h5
        · exact h6
        · exact h7
      · intro h
        have h0 : mx b2 b3 ≤ b1 := h 0 (by omega)
        unfold mx at h0
        refine ⟨?_, ?_, h 1 (by omega), h 2 (by omega), h 3 (by omega), h 4 (by omega), h 5 (by omega)⟩
        · split at h0 <;> omega
        · split at h0 <;> omega
    refine Ev.bind hs ?_
    by_cases ho : b2 ≤ b1 ∧ b3 ≤ b1 ∧ b1 ≤ b10 ∧ b10 ≤ b8 ∧ b8 ≤ b7 ∧ b7 ≤ b13 ∧ b13 ≤ b12
    · simp only [decide_eq_true ho, if_true]
      by_cases h1 : b4 > b5
      · simp only [if_pos h1]
        rw [if_neg (fun h => by have := h.2; unfold ordS at this; omega)]
        exact Ev.now _
      · by_cases h2 : b8 ≥ b11
        · simp only [if_neg h1, if_pos h2]
          rw [if_neg (fun h => by have := h.2; unfold ordS at this; omega)]
          exact Ev.now _
        · simp only [if_neg h1, if_neg h2]
          rw [if_pos ⟨hw, by unfold ordS; omega⟩]
          exact Ev.now _
    · simp only [decide_eq_false ho, if_neg (show ¬ false = true by simp)]
      rw [if_neg (fun h => ho (by have := h.2; unfold ordS at this; omega))]
      exact Ev.now _
  · simp only [hw, if_neg (show ¬ false = true by simp)]
    rw [if_neg (fun h => hw h.1)]
    exact Ev.now _

theorem spalive_f : Ev (fun k => haulierlaw12_alive.f k) true := by
  refine Ev.of (k := 60) haulierlaw12_alive.mono ?_
  decide +kernel

def spchk (b0 b1 b2 b3 b4 b5 b6 b7 b8 b9 b10 b11 b12 b13 b14 b15 b16 b17 b18 : Int) (f t d : Int) : Int := if BV b0 b1 b2 b3 b4 b5 b6 b7 b8 b9 b10 b11 b12 b13 b14 b15 b16 b17 b18 then spell_check.sp f t d else 14
theorem spchk_f (b0 b1 b2 b3 b4 b5 b6 b7 b8 b9 b10 b11 b12 b13 b14 b15 b16 b17 b18 : Int) (f t d : Int) : Ev (fun k => spell_check.f k b0 b1 b2 b3 b4 b5 b6 b7 b8 b9 b10 b11 b12 b13 b14 b15 b16 b17 b18 f t d) (spchk b0 b1 b2 b3 b4 b5 b6 b7 b8 b9 b10 b11 b12 b13 b14 b15 b16 b17 b18 f t d) := by
  unfold spell_check.f spchk
  refine Ev.bind (check_f b0 b1 b2 b3 b4 b5 b6 b7 b8 b9 b10 b11 b12 b13 b14 b15 b16 b17 b18) ?_
  by_cases h : BV b0 b1 b2 b3 b4 b5 b6 b7 b8 b9 b10 b11 b12 b13 b14 b15 b16 b17 b18
  · simp only [if_pos h, if_true]
    exact Ev.now _
  · simp only [if_neg h, if_neg (show ¬ (14 : Int) = 0 by omega)]
    exact Ev.now _
def worth (b0 b1 b2 b3 b4 b5 b6 b7 b8 b9 b10 b11 b12 b13 b14 b15 b16 b17 b18 : Int) (f t d : Int) (half split : Bool) : Bool × Bool × Bool × Bool × Bool × Bool × Bool := spell_Of.sp (decide (wrap64 (t - f) ≥ b13)) (decide (wrap64 (t - f) ≥ b12)) (decide (wrap64 (t - f) ≥ b8)) (decide (wrap64 ((if t ≤ wrap64 (d + b11) then t else wrap64 (d + b11)) - f) < b7)) (decide (wrap64 (t - f) ≥ b10)) (decide (wrap64 (t - f) ≥ b1)) (decide (wrap64 (t - f) ≥ b3)) (decide (wrap64 (t - f) ≥ b2)) half split
theorem of_f (b0 b1 b2 b3 b4 b5 b6 b7 b8 b9 b10 b11 b12 b13 b14 b15 b16 b17 b18 : Int) (f t d : Int) (half split : Bool) (W : Bool × Bool × Bool × Bool × Bool × Bool × Bool) (hW : W = worth b0 b1 b2 b3 b4 b5 b6 b7 b8 b9 b10 b11 b12 b13 b14 b15 b16 b17 b18 f t d half split) : Ev (fun k => spell_Of.f k b0 b1 b2 b3 b4 b5 b6 b7 b8 b9 b10 b11 b12 b13 b14 b15 b16 b17 b18 f t d half split) (if spchk b0 b1 b2 b3 b4 b5 b6 b7 b8 b9 b10 b11 b12 b13 b14 b15 b16 b17 b18 f t d = 0 then (W.1, W.2.1, W.2.2.1, W.2.2.2.1, W.2.2.2.2.1, W.2.2.2.2.2.1, W.2.2.2.2.2.2, 0) else (false, false, false, false, false, false, false, spchk b0 b1 b2 b3 b4 b5 b6 b7 b8 b9 b10 b11 b12 b13 b14 b15 b16 b17 b18 f t d)) := by
  subst hW
  unfold spell_Of.f worth
  refine Ev.bind (spchk_f b0 b1 b2 b3 b4 b5 b6 b7 b8 b9 b10 b11 b12 b13 b14 b15 b16 b17 b18 f t d) ?_
  split <;> exact Ev.now _
theorem bv_in (b0 b1 b2 b3 b4 b5 b6 b7 b8 b9 b10 b11 b12 b13 b14 b15 b16 b17 b18 : Int) (h : BV b0 b1 b2 b3 b4 b5 b6 b7 b8 b9 b10 b11 b12 b13 b14 b15 b16 b17 b18) : ordS b0 b1 b2 b3 b4 b5 b6 b7 b8 b9 b10 b11 b12 b13 b14 b15 b16 b17 b18 ∧ (1 ≤ b1 ∧ b1 ≤ 40320) ∧ (1 ≤ b2 ∧ b2 ≤ 40320) ∧ (1 ≤ b3 ∧ b3 ≤ 40320) ∧ (1 ≤ b7 ∧ b7 ≤ 40320) ∧ (1 ≤ b8 ∧ b8 ≤ 40320) ∧ (1 ≤ b10 ∧ b10 ≤ 40320) ∧ (1 ≤ b11 ∧ b11 ≤ 40320) ∧ (1 ≤ b12 ∧ b12 ≤ 40320) ∧ (1 ≤ b13 ∧ b13 ≤ 40320) := by
  have h1 := h.1
  refine ⟨h.2, ?_⟩
  simp [book_within.rng, book_within.lo, book_within.hi] at h1
  omega

theorem okB_sp (c13 c12 c8 ci c10 c1 c3 c2 d13 d12 d8 di d10 d1 d3 d2 half split : Bool) (h13 : c13 = true → d13 = true) (h8 : c8 = true → d8 = true) (h1 : c1 = true → d1 = true) (h3 : c3 = true → d3 = true) (hi : di = true → ci = true) (x y : Bool × Bool × Bool × Bool × Bool × Bool × Bool) (hx : x = spell_Of.sp c13 c12 c8 ci c10 c1 c3 c2 half split) (hy : y = spell_Of.sp d13 d12 d8 di d10 d1 d3 d2 half split) : haulierlaw12_SpellLonger.okB x.1 x.2.1 x.2.2.1 x.2.2.2.1 x.2.2.2.2.1 x.2.2.2.2.2.1 x.2.2.2.2.2.2 y.1 y.2.1 y.2.2.1 y.2.2.2.1 y.2.2.2.2.1 y.2.2.2.2.2.1 y.2.2.2.2.2.2 = true := by
  subst hx hy
  cases c13
  · cases d13
    · cases c8
      · cases d8
        · cases c1 <;> cases d1 <;> cases c3 <;> cases d3 <;> cases half <;> first | exact Bool.noConfusion (h1 rfl) | exact Bool.noConfusion (h3 rfl) | (cases d10 <;> cases d2 <;> cases c10 <;> cases c2 <;> rfl)
        · cases di <;> cases split <;> cases c1 <;> cases c3 <;> cases half <;> cases c10 <;> cases c2 <;> rfl
      · cases d8
        · exact Bool.noConfusion (h8 rfl)
        · cases ci <;> cases di <;> cases split <;> first | exact Bool.noConfusion (hi rfl) | rfl
    · cases d12 <;> cases c8 <;> first | (cases ci <;> cases split <;> rfl) | (cases c1 <;> cases c3 <;> cases half <;> cases c10 <;> cases c2 <;> rfl)
  · cases d13
    · exact Bool.noConfusion (h13 rfl)
    · cases d12 <;> rfl
theorem SpellLonger : haulierlaw12_SpellLonger.Pure := by
  intro b0 b1 b2 b3 b4 b5 b6 b7 b8 b9 b10 b11 b12 b13 b14 b15 b16 b17 b18 f t d half split _ _ _ _ _ _ _ _ _ _ _ _ _ _ _ _ _ _ _ _ _ _
  refine Ev.rounds ?_
  unfold haulierlaw12_SpellLonger.f
  by_cases ht : 40319 < t
  · simp only [if_pos ht]
    exact spalive_f
  · simp only [if_neg ht]
    refine Ev.bind (of_f b0 b1 b2 b3 b4 b5 b6 b7 b8 b9 b10 b11 b12 b13 b14 b15 b16 b17 b18 f t d half split _ rfl) ?_
    by_cases hc : spchk b0 b1 b2 b3 b4 b5 b6 b7 b8 b9 b10 b11 b12 b13 b14 b15 b16 b17 b18 f t d = 0
    · have hB : BV b0 b1 b2 b3 b4 b5 b6 b7 b8 b9 b10 b11 b12 b13 b14 b15 b16 b17 b18 := by
        refine Classical.byContradiction fun hn => ?_
        unfold spchk at hc
        rw [if_neg hn] at hc
        omega
      obtain ⟨ho, h1, h2, h3, h7, h8, h10, h11, h12, h13⟩ := bv_in b0 b1 b2 b3 b4 b5 b6 b7 b8 b9 b10 b11 b12 b13 b14 b15 b16 b17 b18 hB
      have hs : 0 ≤ f ∧ f < t ∧ 0 ≤ d ∧ d ≤ f := by
        unfold spchk spell_check.sp at hc
        rw [if_pos hB] at hc
        split at hc
        · omega
        · split at hc
          · omega
          · split at hc
            · omega
            · split at hc
              · omega
              · split at hc <;> omega
      have e1 : wrap64 (t + 1) = t + 1 := w64 (by omega) (by omega)
      have hc2 : spchk b0 b1 b2 b3 b4 b5 b6 b7 b8 b9 b10 b11 b12 b13 b14 b15 b16 b17 b18 f (t + 1) d = 0 := by
        unfold spchk spell_check.sp
        rw [if_pos hB, if_neg (by omega), if_neg (by omega), if_neg (by omega), if_neg (by omega), if_neg (by omega)]
      have g1 : wrap64 (t - f) = t - f := w64 (by omega) (by omega)
      have g2 : wrap64 (t + 1 - f) = t + 1 - f := w64 (by omega) (by omega)
      have g3 : wrap64 (d + b11) = d + b11 := w64 (by omega) (by omega)
      have g4 : wrap64 ((if t ≤ d + b11 then t else d + b11) - f) = (if t ≤ d + b11 then t else d + b11) - f := w64 (by split <;> omega) (by split <;> omega)
      have g5 : wrap64 ((if t + 1 ≤ d + b11 then t + 1 else d + b11) - f) = (if t + 1 ≤ d + b11 then t + 1 else d + b11) - f := w64 (by split <;> omega) (by split <;> omega)
      have hok := okB_sp (decide (wrap64 (t - f) ≥ b13)) (decide (wrap64 (t - f) ≥ b12)) (decide (wrap64 (t - f) ≥ b8)) (decide (wrap64 ((if t ≤ wrap64 (d + b11) then t else wrap64 (d + b11)) - f) < b7)) (decide (wrap64 (t - f) ≥ b10)) (decide (wrap64 (t - f) ≥ b1)) (decide (wrap64 (t - f) ≥ b3)) (decide (wrap64 (t - f) ≥ b2)) (decide (wrap64 (t + 1 - f) ≥ b13)) (decide (wrap64 (t + 1 - f) ≥ b12)) (decide (wrap64 (t + 1 - f) ≥ b8)) (decide (wrap64 ((if t + 1 ≤ wrap64 (d + b11) then t + 1 else wrap64 (d + b11)) - f) < b7)) (decide (wrap64 (t + 1 - f) ≥ b10)) (decide (wrap64 (t + 1 - f) ≥ b1)) (decide (wrap64 (t + 1 - f) ≥ b3)) (decide (wrap64 (t + 1 - f) ≥ b2)) half split (by simp only [decide_eq_true_iff, g1, g2]; omega) (by simp only [decide_eq_true_iff, g1, g2]; omega) (by simp only [decide_eq_true_iff, g1, g2]; omega) (by simp only [decide_eq_true_iff, g1, g2]; omega) (by
          simp only [decide_eq_true_iff, g3, g4, g5]
          split <;> split <;> omega) (worth b0 b1 b2 b3 b4 b5 b6 b7 b8 b9 b10 b11 b12 b13 b14 b15 b16 b17 b18 f t d half split) (worth b0 b1 b2 b3 b4 b5 b6 b7 b8 b9 b10 b11 b12 b13 b14 b15 b16 b17 b18 f (t + 1) d half split) rfl rfl
      simp only [if_pos hc, if_true, e1]
      refine Ev.bind (of_f b0 b1 b2 b3 b4 b5 b6 b7 b8 b9 b10 b11 b12 b13 b14 b15 b16 b17 b18 f (t + 1) d half split _ rfl) ?_
      simp only [if_pos hc2]
      simp only [hok, and_self, if_true]
      exact spalive_f
    · simp only [if_neg hc]
      simp only [and_self, if_true]
      exact spalive_f


end Go.Proofs.Ytlkoapcaboinaaa.Pure
