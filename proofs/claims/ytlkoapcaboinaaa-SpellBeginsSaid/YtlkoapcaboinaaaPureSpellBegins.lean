/- A rest that begins with the last minute that may be ends with the round, and one that begins in time for a regular one is not reduced: for every book and every minute. -/
import Derived.Test.YtlkoapcaboinaaaMSpellBeginsx4
set_option linter.unusedVariables false
set_option linter.unusedSimpArgs false
namespace Go.Proofs.Ytlkoapcaboinaaa.Pure
open Go.RowKit Go.Proofs.Ytlkoapcaboinaaa.MSpellBegins Go.Proofs.YtlkoapcaboinaaaW.PrintWords Go.Proofs.YtlkoapcaboinaaaW.PrintLast

theorem w64 {x : Int} (h0 : -9223372036854775808 ≤ x) (h1 : x ≤ 9223372036854775807) : wrap64 x = x := by
  unfold wrap64
  omega
theorem tmod_nn {a : Int} (h : 0 ≤ a) (b : Int) : Int.tmod a b = a % b := by
  rw [Int.tmod_eq_emod_of_nonneg h]
theorem tdiv_nn {a : Int} (h : 0 ≤ a) (b : Int) : Int.tdiv a b = a / b := by
  rw [Int.tdiv_eq_ediv_of_nonneg h]
theorem ev_succ {α : Type} {g : Nat → Option α} {r : α} (h : Ev (fun k => g (k + 1)) r) : Ev g r := by
  obtain ⟨K, h⟩ := h
  refine ⟨K + 1, fun n hn => ?_⟩
  obtain ⟨m, rfl⟩ : ∃ m, n = m + 1 := ⟨n - 1, by omega⟩
  exact h m (by omega)

def IR (x : Int) : Prop := -9223372036854775808 ≤ x ∧ x ≤ 9223372036854775807
theorem ir_of {x : Int} (h : (Lit.int .i64 x).wf = true) : IR x := by simpa [IR, Lit.wf, IntKind.min, IntKind.max, IntKind.signed, IntKind.bits] using h
theorem rd_drop (xs : List Int) (i : Nat) (h : i < xs.length) : xs.drop i = rd xs (i : Int) :: xs.drop (i + 1) := by
  rw [List.drop_eq_getElem_cons h]
  simp [rd, h]
theorem rd_mem (xs : List Int) (i : Nat) (h : i < xs.length) : rd xs (i : Int) ∈ xs := by
  simp [rd, h]

def ordS (b0 b1 b2 b3 b4 b5 b6 b7 b8 b9 b10 b11 b12 b13 b14 b15 b16 b17 b18 : Int) : Prop := b2 ≤ b1 ∧ b3 ≤ b1 ∧ b1 ≤ b10 ∧ b10 ≤ b8 ∧ b8 ≤ b7 ∧ b7 ≤ b13 ∧ b13 ≤ b12 ∧ b4 ≤ b5 ∧ b8 < b11
instance (b0 b1 b2 b3 b4 b5 b6 b7 b8 b9 b10 b11 b12 b13 b14 b15 b16 b17 b18 : Int) : Decidable (ordS b0 b1 b2 b3 b4 b5 b6 b7 b8 b9 b10 b11 b12 b13 b14 b15 b16 b17 b18) := by unfold ordS; infer_instance
def BV (b0 b1 b2 b3 b4 b5 b6 b7 b8 b9 b10 b11 b12 b13 b14 b15 b16 b17 b18 : Int) : Prop := book_within.rng 0 [b0, b1, b2, b3, b4, b5, b6, b7, b8, b9, b10, b11, b12, b13, b14, b15, b16, b17, b18] = true ∧ ordS b0 b1 b2 b3 b4 b5 b6 b7 b8 b9 b10 b11 b12 b13 b14 b15 b16 b17 b18
instance (b0 b1 b2 b3 b4 b5 b6 b7 b8 b9 b10 b11 b12 b13 b14 b15 b16 b17 b18 : Int) : Decidable (BV b0 b1 b2 b3 b4 b5 b6 b7 b8 b9 b10 b11 b12 b13 b14 b15 b16 b17 b18) := by unfold BV; infer_instance
theorem less_f (a b : Int) : cmp_Less_int.f a b = some (decide (a < b)) := by
  unfold cmp_Less_int.f cmp_isNaN_int.f
  simp
theorem sorted_l0 (l : List Int) (hl : l.length ≤ 1000) : ∀ i : Nat, i < l.length → ∀ r : Bool, (r = true ↔ ∀ j : Nat, j < i → rd l (j : Int) ≤ rd l ((j : Int) + 1)) → Ev (fun k => slices_IsSorted_int_int.l0 k l (i : Int)) r := by
  intro i
  induction i with
  | zero =>
    intro _ r hr
    have : r = true := hr.2 (fun j hj => by omega)
    subst this
    refine ev_succ ?_
    simp only [slices_IsSorted_int_int.l0, if_neg (show ¬ ((0 : Nat) : Int) > 0 by omega)]
    exact Ev.now _
  | succ i ih =>
    intro hi r hr
    have e : ((i + 1 : Nat) : Int) = (i : Int) + 1 := by omega
    refine ev_succ ?_
    simp only [slices_IsSorted_int_int.l0, e, if_pos (show (i : Int) + 1 > 0 by omega), if_pos (show 0 ≤ (i : Int) + 1 by omega), if_pos (show (i : Int) + 1 < (l.length : Int) by omega), Int.add_sub_cancel, w64 (x := (i : Int)) (by omega) (by omega), if_pos (show 0 ≤ (i : Int) by omega), if_pos (show (i : Int) < (l.length : Int) by omega), less_f, Option.bind_some]
    by_cases h : rd l ((i : Int) + 1) < rd l (i : Int)
    · have : r = false := by
        cases r with
        | false => rfl
        | true =>
          have := (hr.1 rfl) i (by omega)
          omega
      subst this
      simp only [decide_eq_true h, if_true]
      exact Ev.now _
    · simp only [decide_eq_false h, if_neg (show ¬ false = true by simp)]
      refine ih (by omega) r ?_
      rw [hr]
      constructor
      · exact fun h2 j hj => h2 j (by omega)
      · intro h2 j hj
        by_cases e2 : j = i
        · subst e2; omega
        · exact h2 j (by omega)
theorem check_f (b0 b1 b2 b3 b4 b5 b6 b7 b8 b9 b10 b11 b12 b13 b14 b15 b16 b17 b18 : Int) : Ev (fun k => book_Check.f k b0 b1 b2 b3 b4 b5 b6 b7 b8 b9 b10 b11 b12 b13 b14 b15 b16 b17 b18) (if BV b0 b1 b2 b3 b4 b5 b6 b7 b8 b9 b10 b11 b12 b13 b14 b15 b16 b17 b18 then 0 else 14) := by
  unfold book_Check.f book_within.f
  simp only [Option.bind_some]
  by_cases hw : book_within.rng 0 [b0, b1, b2, b3, b4, b5, b6, b7, b8, b9, b10, b11, b12, b13, b14, b15, b16, b17, b18] = true
  · simp only [hw, if_true]
    have hs : Ev (fun k => slices_IsSorted_int_int.f k [mx b2 b3, b1, b10, b8, b7, b13, b12]) (decide (b2 ≤ b1 ∧ b3 ≤ b1 ∧ b1 ≤ b10 ∧ b10 ≤ b8 ∧ b8 ≤ b7 ∧ b7 ≤ b13 ∧ b13 ≤ b12)) := by
      unfold slices_IsSorted_int_int.f
      have e : wrap64 (([mx b2 b3, b1, b10, b8, b7, b13, b12].length : Int) - 1) = ((6 : Nat) : Int) := by show wrap64 ((7 : Int) - 1) = 6; exact (w64 (by omega) (by omega)).trans (by omega)
      rw [e]
      refine sorted_l0 _ (by simp) 6 (by simp) _ ?_
      rw [decide_eq_true_iff]
      constructor
      · rintro ⟨h1, h2, h3, h4, h5, h6, h7⟩ j hj
        have : j = 0 ∨ j = 1 ∨ j = 2 ∨ j = 3 ∨ j = 4 ∨ j = 5 := by omega
        rcases this with rfl | rfl | rfl | rfl | rfl | rfl
        · show mx b2 b3 ≤ b1
          unfold mx; split <;> omega
        · exact h3
        · exact h4
        · exact h5
        · exact h6
        · exact h7
      · intro h
        have h0 : mx b2 b3 ≤ b1 := h 0 (by omega)
        unfold mx at h0
        refine ⟨?_, ?_, h 1 (by omega), h 2 (by omega), h 3 (by omega), h 4 (by omega), h 5 (by omega)⟩
        · split at h0 <;> omega
        · split at h0 <;> omega
    refine Ev.bind hs ?_
    by_cases ho : b2 ≤ b1 ∧ b3 ≤ b1 ∧ b1 ≤ b10 ∧ b10 ≤ b8 ∧ b8 ≤ b7 ∧ b7 ≤ b13 ∧ b13 ≤ b12
    · simp only [decide_eq_true ho, if_true]
      by_cases h1 : b4 > b5
      · simp only [if_pos h1]
        rw [if_neg (fun h => by have := h.2; unfold ordS at this; omega)]
        exact Ev.now _
      · by_cases h2 : b8 ≥ b11
        · simp only [if_neg h1, if_pos h2]
          rw [if_neg (fun h => by have := h.2; unfold ordS at this; omega)]
          exact Ev.now _
        · simp only [if_neg h1, if_neg h2]
          rw [if_pos ⟨hw, by unfold ordS; omega⟩]
          exact Ev.now _
    · simp only [decide_eq_false ho, if_neg (show ¬ false = true by simp)]
      rw [if_neg (fun h => ho (by have := h.2; unfold ordS at this; omega))]
      exact Ev.now _
  · simp only [hw, if_neg (show ¬ false = true by simp)]
    rw [if_neg (fun h => hw h.1)]
    exact Ev.now _

def dawnS (b0 b1 b2 b3 b4 b5 b6 b7 b8 b9 b10 b11 b12 b13 b14 b15 b16 b17 b18 : Int) (d : Int) : Int := if BV b0 b1 b2 b3 b4 b5 b6 b7 b8 b9 b10 b11 b12 b13 b14 b15 b16 b17 b18 then (if d < 0 ∨ d > 40320 then 1 else 0) else 14
theorem dawned_f (b0 b1 b2 b3 b4 b5 b6 b7 b8 b9 b10 b11 b12 b13 b14 b15 b16 b17 b18 : Int) (d : Int) : Ev (fun k => spell_dawned.f k b0 b1 b2 b3 b4 b5 b6 b7 b8 b9 b10 b11 b12 b13 b14 b15 b16 b17 b18 d) (dawnS b0 b1 b2 b3 b4 b5 b6 b7 b8 b9 b10 b11 b12 b13 b14 b15 b16 b17 b18 d) := by
  unfold spell_dawned.f dawnS
  refine Ev.bind (check_f b0 b1 b2 b3 b4 b5 b6 b7 b8 b9 b10 b11 b12 b13 b14 b15 b16 b17 b18) ?_
  by_cases h : BV b0 b1 b2 b3 b4 b5 b6 b7 b8 b9 b10 b11 b12 b13 b14 b15 b16 b17 b18
  · simp only [if_pos h, if_true]
    by_cases h1 : d < 0
    · simp only [if_pos h1, if_pos (Or.inl h1 : d < 0 ∨ d > 40320)]
      exact Ev.now _
    · by_cases h2 : d > 40320
      · simp only [if_neg h1, if_pos h2, if_pos (Or.inr h2 : d < 0 ∨ d > 40320)]
        exact Ev.now _
      · simp only [if_neg h1, if_neg h2, if_neg (show ¬ (d < 0 ∨ d > 40320) by omega)]
        exact Ev.now _
  · simp only [if_neg h, if_neg (show ¬ (14 : Int) = 0 by omega)]
    exact Ev.now _
theorem latest_f (b0 b1 b2 b3 b4 b5 b6 b7 b8 b9 b10 b11 b12 b13 b14 b15 b16 b17 b18 : Int) (d : Int) : Ev (fun k => spell_Latest.f k b0 b1 b2 b3 b4 b5 b6 b7 b8 b9 b10 b11 b12 b13 b14 b15 b16 b17 b18 d) (if dawnS b0 b1 b2 b3 b4 b5 b6 b7 b8 b9 b10 b11 b12 b13 b14 b15 b16 b17 b18 d = 0 then (wrap64 (wrap64 (d + b11) - b8), 0) else (0, dawnS b0 b1 b2 b3 b4 b5 b6 b7 b8 b9 b10 b11 b12 b13 b14 b15 b16 b17 b18 d)) := by
  unfold spell_Latest.f
  refine Ev.bind (dawned_f b0 b1 b2 b3 b4 b5 b6 b7 b8 b9 b10 b11 b12 b13 b14 b15 b16 b17 b18 d) ?_
  split <;> exact Ev.now _
theorem regular_f (b0 b1 b2 b3 b4 b5 b6 b7 b8 b9 b10 b11 b12 b13 b14 b15 b16 b17 b18 : Int) (d : Int) : Ev (fun k => spell_Regular.f k b0 b1 b2 b3 b4 b5 b6 b7 b8 b9 b10 b11 b12 b13 b14 b15 b16 b17 b18 d) (if dawnS b0 b1 b2 b3 b4 b5 b6 b7 b8 b9 b10 b11 b12 b13 b14 b15 b16 b17 b18 d = 0 then (mx 0 (wrap64 (wrap64 (d + b11) - b7)), 0) else (0, dawnS b0 b1 b2 b3 b4 b5 b6 b7 b8 b9 b10 b11 b12 b13 b14 b15 b16 b17 b18 d)) := by
  unfold spell_Regular.f
  refine Ev.bind (dawned_f b0 b1 b2 b3 b4 b5 b6 b7 b8 b9 b10 b11 b12 b13 b14 b15 b16 b17 b18 d) ?_
  split <;> exact Ev.now _

theorem spalive_f : Ev (fun k => haulierlaw12_alive.f k) true := by
  refine Ev.of (k := 60) haulierlaw12_alive.mono ?_
  decide +kernel

def spchk (b0 b1 b2 b3 b4 b5 b6 b7 b8 b9 b10 b11 b12 b13 b14 b15 b16 b17 b18 : Int) (f t d : Int) : Int := if BV b0 b1 b2 b3 b4 b5 b6 b7 b8 b9 b10 b11 b12 b13 b14 b15 b16 b17 b18 then spell_check.sp f t d else 14
theorem spchk_f (b0 b1 b2 b3 b4 b5 b6 b7 b8 b9 b10 b11 b12 b13 b14 b15 b16 b17 b18 : Int) (f t d : Int) : Ev (fun k => spell_check.f k b0 b1 b2 b3 b4 b5 b6 b7 b8 b9 b10 b11 b12 b13 b14 b15 b16 b17 b18 f t d) (spchk b0 b1 b2 b3 b4 b5 b6 b7 b8 b9 b10 b11 b12 b13 b14 b15 b16 b17 b18 f t d) := by
  unfold spell_check.f spchk
  refine Ev.bind (check_f b0 b1 b2 b3 b4 b5 b6 b7 b8 b9 b10 b11 b12 b13 b14 b15 b16 b17 b18) ?_
  by_cases h : BV b0 b1 b2 b3 b4 b5 b6 b7 b8 b9 b10 b11 b12 b13 b14 b15 b16 b17 b18
  · simp only [if_pos h, if_true]
    exact Ev.now _
  · simp only [if_neg h, if_neg (show ¬ (14 : Int) = 0 by omega)]
    exact Ev.now _
def worth (b0 b1 b2 b3 b4 b5 b6 b7 b8 b9 b10 b11 b12 b13 b14 b15 b16 b17 b18 : Int) (f t d : Int) (half split : Bool) : Bool × Bool × Bool × Bool × Bool × Bool × Bool := spell_Of.sp (decide (wrap64 (t - f) ≥ b13)) (decide (wrap64 (t - f) ≥ b12)) (decide (wrap64 (t - f) ≥ b8)) (decide (wrap64 ((if t ≤ wrap64 (d + b11) then t else wrap64 (d + b11)) - f) < b7)) (decide (wrap64 (t - f) ≥ b10)) (decide (wrap64 (t - f) ≥ b1)) (decide (wrap64 (t - f) ≥ b3)) (decide (wrap64 (t - f) ≥ b2)) half split
theorem of_f (b0 b1 b2 b3 b4 b5 b6 b7 b8 b9 b10 b11 b12 b13 b14 b15 b16 b17 b18 : Int) (f t d : Int) (half split : Bool) (W : Bool × Bool × Bool × Bool × Bool × Bool × Bool) (hW : W = worth b0 b1 b2 b3 b4 b5 b6 b7 b8 b9 b10 b11 b12 b13 b14 b15 b16 b17 b18 f t d half split) : Ev (fun k => spell_Of.f k b0 b1 b2 b3 b4 b5 b6 b7 b8 b9 b10 b11 b12 b13 b14 b15 b16 b17 b18 f t d half split) (if spchk b0 b1 b2 b3 b4 b5 b6 b7 b8 b9 b10 b11 b12 b13 b14 b15 b16 b17 b18 f t d = 0 then (W.1, W.2.1, W.2.2.1, W.2.2.2.1, W.2.2.2.2.1, W.2.2.2.2.2.1, W.2.2.2.2.2.2, 0) else (false, false, false, false, false, false, false, spchk b0 b1 b2 b3 b4 b5 b6 b7 b8 b9 b10 b11 b12 b13 b14 b15 b16 b17 b18 f t d)) := by
  subst hW
  unfold spell_Of.f worth
  refine Ev.bind (spchk_f b0 b1 b2 b3 b4 b5 b6 b7 b8 b9 b10 b11 b12 b13 b14 b15 b16 b17 b18 f t d) ?_
  split <;> exact Ev.now _
theorem bv_in (b0 b1 b2 b3 b4 b5 b6 b7 b8 b9 b10 b11 b12 b13 b14 b15 b16 b17 b18 : Int) (h : BV b0 b1 b2 b3 b4 b5 b6 b7 b8 b9 b10 b11 b12 b13 b14 b15 b16 b17 b18) : ordS b0 b1 b2 b3 b4 b5 b6 b7 b8 b9 b10 b11 b12 b13 b14 b15 b16 b17 b18 ∧ (1 ≤ b1 ∧ b1 ≤ 40320) ∧ (1 ≤ b2 ∧ b2 ≤ 40320) ∧ (1 ≤ b3 ∧ b3 ≤ 40320) ∧ (1 ≤ b7 ∧ b7 ≤ 40320) ∧ (1 ≤ b8 ∧ b8 ≤ 40320) ∧ (1 ≤ b10 ∧ b10 ≤ 40320) ∧ (1 ≤ b11 ∧ b11 ≤ 40320) ∧ (1 ≤ b12 ∧ b12 ≤ 40320) ∧ (1 ≤ b13 ∧ b13 ≤ 40320) := by
  have h1 := h.1
  refine ⟨h.2, ?_⟩
  simp [book_within.rng, book_within.lo, book_within.hi] at h1
  omega

theorem sb_j3 (b0 b1 b2 b3 b4 b5 b6 b7 b8 b9 b10 b11 b12 b13 b14 b15 b16 b17 b18 : Int) (hB : BV b0 b1 b2 b3 b4 b5 b6 b7 b8 b9 b10 b11 b12 b13 b14 b15 b16 b17 b18) (d c : Int) (hd : 0 ≤ d ∧ d ≤ 40320) (z : Bool) (hz : z = false → d ≤ c ∧ c + b7 = d + b11 ∧ c ≤ 40320 - b7) : Ev (fun k => haulierlaw12_SpellBegins.j3 k d c z b0 b1 b2 b3 b4 b5 b6 b7 b8 b9 b10 b11 b12 b13 b14 b15 b16 b17 b18) true := by
  obtain ⟨ho, h1, h2, h3, h7, h8, h10, h11, h12, h13⟩ := bv_in b0 b1 b2 b3 b4 b5 b6 b7 b8 b9 b10 b11 b12 b13 b14 b15 b16 b17 b18 hB
  unfold ordS at ho
  refine ev_succ ?_
  simp only [haulierlaw12_SpellBegins.j3]
  by_cases h : z = true
  · simp only [if_pos h]
    exact Ev.bind spalive_f (Ev.now _)
  · obtain ⟨g1, g2, g3⟩ := hz (by simpa using h)
    have e1 : wrap64 (c + b7) = c + b7 := w64 (by omega) (by omega)
    have e2 : wrap64 (c + b7 - c) = b7 := (w64 (by omega) (by omega)).trans (by omega)
    have e3 : wrap64 (d + b11) = d + b11 := w64 (by omega) (by omega)
    have hc : spchk b0 b1 b2 b3 b4 b5 b6 b7 b8 b9 b10 b11 b12 b13 b14 b15 b16 b17 b18 c (c + b7) d = 0 := by
      unfold spchk spell_check.sp
      rw [if_pos hB, if_neg (by omega), if_neg (by omega), if_neg (by omega), if_neg (by omega), if_neg (by omega)]
    have hW := of_f b0 b1 b2 b3 b4 b5 b6 b7 b8 b9 b10 b11 b12 b13 b14 b15 b16 b17 b18 c (c + b7) d false false _ rfl
    rw [if_pos hc] at hW
    have e4 : (if c + b7 ≤ d + b11 then c + b7 else d + b11) = c + b7 := if_pos (by omega)
    have hD : (worth b0 b1 b2 b3 b4 b5 b6 b7 b8 b9 b10 b11 b12 b13 b14 b15 b16 b17 b18 c (c + b7) d false false).2.2.2.1 = true ∧ (worth b0 b1 b2 b3 b4 b5 b6 b7 b8 b9 b10 b11 b12 b13 b14 b15 b16 b17 b18 c (c + b7) d false false).2.2.2.2.1 = false := by
      unfold worth spell_Of.sp
      rw [e2, e3, e4, e2]
      by_cases k1 : b7 ≥ b13
      · rw [decide_eq_true k1]
        exact ⟨rfl, rfl⟩
      · rw [decide_eq_false k1, decide_eq_true (show b7 ≥ b8 by omega), decide_eq_false (show ¬ b7 < b7 by omega)]
        exact ⟨rfl, rfl⟩
    simp only [if_neg h, e1]
    refine Ev.bind hW ?_
    simp only [hD.1, hD.2, if_true, if_neg (show ¬ false = true by simp), Bool.not_false]
    exact Ev.bind spalive_f (Ev.now _)
theorem sb_j1 (b0 b1 b2 b3 b4 b5 b6 b7 b8 b9 b10 b11 b12 b13 b14 b15 b16 b17 b18 : Int) (hB : BV b0 b1 b2 b3 b4 b5 b6 b7 b8 b9 b10 b11 b12 b13 b14 b15 b16 b17 b18) (d a c : Int) (hd : 0 ≤ d ∧ d ≤ 40320) (ha : a = d + b11 - b8) (hc0 : 0 ≤ c ∧ c ≤ 100000) (z : Bool) (hz : z = false → a ≤ 40320 - b8) : Ev (fun k => haulierlaw12_SpellBegins.j1 k d a c z b0 b1 b2 b3 b4 b5 b6 b7 b8 b9 b10 b11 b12 b13 b14 b15 b16 b17 b18) true := by
  obtain ⟨ho, h1, h2, h3, h7, h8, h10, h11, h12, h13⟩ := bv_in b0 b1 b2 b3 b4 b5 b6 b7 b8 b9 b10 b11 b12 b13 b14 b15 b16 b17 b18 hB
  unfold ordS at ho
  refine ev_succ ?_
  simp only [haulierlaw12_SpellBegins.j1]
  by_cases h : z = true
  · simp only [if_pos h, if_pos (show a ≥ d by omega)]
    exact Ev.bind spalive_f (Ev.now _)
  · have g := hz (by simpa using h)
    have e1 : wrap64 (a + b8) = a + b8 := w64 (by omega) (by omega)
    have e2 : wrap64 (a + b8 - a) = b8 := (w64 (by omega) (by omega)).trans (by omega)
    have e3 : wrap64 (d + b11) = d + b11 := w64 (by omega) (by omega)
    have e5 : wrap64 (c + b7) = c + b7 := w64 (by omega) (by omega)
    have e6 : wrap64 (40320 - b7) = 40320 - b7 := w64 (by omega) (by omega)
    have hc : spchk b0 b1 b2 b3 b4 b5 b6 b7 b8 b9 b10 b11 b12 b13 b14 b15 b16 b17 b18 a (a + b8) d = 0 := by
      unfold spchk spell_check.sp
      rw [if_pos hB, if_neg (by omega), if_neg (by omega), if_neg (by omega), if_neg (by omega), if_neg (by omega)]
    have hW := of_f b0 b1 b2 b3 b4 b5 b6 b7 b8 b9 b10 b11 b12 b13 b14 b15 b16 b17 b18 a (a + b8) d false false _ rfl
    rw [if_pos hc] at hW
    have hD : (worth b0 b1 b2 b3 b4 b5 b6 b7 b8 b9 b10 b11 b12 b13 b14 b15 b16 b17 b18 a (a + b8) d false false).2.2.2.1 = true := by
      unfold worth spell_Of.sp
      rw [e2]
      by_cases k1 : b8 ≥ b13
      · rw [decide_eq_true k1]
        rfl
      · rw [decide_eq_false k1, decide_eq_true (show b8 ≥ b8 by omega)]
        rfl
    have hne : (a + b8 != d + b11) = false := by
      rw [show a + b8 = d + b11 by omega]
      simp
    simp only [if_neg h, e1]
    refine Ev.bind hW ?_
    simp only [hD, if_true, e3, hne]
    refine ev_succ ?_
    simp only [haulierlaw12_SpellBegins.j2, if_neg (show ¬ false = true by simp), e3, e5, e6]
    by_cases k1 : c < d
    · simp only [if_pos k1]
      exact sb_j3 b0 b1 b2 b3 b4 b5 b6 b7 b8 b9 b10 b11 b12 b13 b14 b15 b16 b17 b18 hB d c hd true (by simp)
    · by_cases k2 : c + b7 = d + b11
      · simp only [if_neg k1, if_pos k2]
        exact sb_j3 b0 b1 b2 b3 b4 b5 b6 b7 b8 b9 b10 b11 b12 b13 b14 b15 b16 b17 b18 hB d c hd _ (by simp; intro k3; omega)
      · simp only [if_neg k1, if_neg k2]
        exact sb_j3 b0 b1 b2 b3 b4 b5 b6 b7 b8 b9 b10 b11 b12 b13 b14 b15 b16 b17 b18 hB d c hd true (by simp)
theorem SpellBegins : haulierlaw12_SpellBegins.Pure := by
  intro b0 b1 b2 b3 b4 b5 b6 b7 b8 b9 b10 b11 b12 b13 b14 b15 b16 b17 b18 d _ _ _ _ _ _ _ _ _ _ _ _ _ _ _ _ _ _ _ _
  refine Ev.rounds ?_
  unfold haulierlaw12_SpellBegins.f
  refine Ev.bind (latest_f b0 b1 b2 b3 b4 b5 b6 b7 b8 b9 b10 b11 b12 b13 b14 b15 b16 b17 b18 d) (Ev.bind (regular_f b0 b1 b2 b3 b4 b5 b6 b7 b8 b9 b10 b11 b12 b13 b14 b15 b16 b17 b18 d) ?_)
  by_cases h : dawnS b0 b1 b2 b3 b4 b5 b6 b7 b8 b9 b10 b11 b12 b13 b14 b15 b16 b17 b18 d = 0
  · have hB : BV b0 b1 b2 b3 b4 b5 b6 b7 b8 b9 b10 b11 b12 b13 b14 b15 b16 b17 b18 := by
      refine Classical.byContradiction fun hn => ?_
      unfold dawnS at h
      rw [if_neg hn] at h
      omega
    have hd : ¬ (d < 0 ∨ d > 40320) := by
      intro hn
      unfold dawnS at h
      rw [if_pos hB, if_pos hn] at h
      omega
    obtain ⟨ho, h1, h2, h3, h7, h8, h10, h11, h12, h13⟩ := bv_in b0 b1 b2 b3 b4 b5 b6 b7 b8 b9 b10 b11 b12 b13 b14 b15 b16 b17 b18 hB
    unfold ordS at ho
    have e3 : wrap64 (d + b11) = d + b11 := w64 (by omega) (by omega)
    have e4 : wrap64 (d + b11 - b8) = d + b11 - b8 := w64 (by omega) (by omega)
    have e5 : wrap64 (d + b11 - b7) = d + b11 - b7 := w64 (by omega) (by omega)
    have e6 : wrap64 (40320 - b8) = 40320 - b8 := w64 (by omega) (by omega)
    simp only [if_pos h, if_true, e3, e4, e5, bne_self_eq_false]
    refine ev_succ ?_
    simp only [haulierlaw12_SpellBegins.j0, if_neg (show ¬ false = true by simp), if_neg (show ¬ d + b11 - b8 < d by omega), e6]
    exact sb_j1 b0 b1 b2 b3 b4 b5 b6 b7 b8 b9 b10 b11 b12 b13 b14 b15 b16 b17 b18 hB d _ _ (by omega) rfl (by unfold mx; split <;> omega) _ (by simp)
  · simp only [if_neg h]
    refine ev_succ ?_
    simp only [haulierlaw12_SpellBegins.j0, if_true]
    exact Ev.bind spalive_f (Ev.now _)


end Go.Proofs.Ytlkoapcaboinaaa.Pure
