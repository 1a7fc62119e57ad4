/- A sum less one of two is the other one; what is divided comes back from quotient and rest, with the rest in its bounds: for all pairs of 64-bit numbers. -/
import Derived.Test.YtpognhkidocglaaMMinuteBackx2
import Derived.Laws.MathBits
set_option linter.unusedVariables false
set_option linter.unusedSimpArgs false
namespace Go.Proofs.Ytpognhkidocglaa.Pure
open Go.RowKit Go.Proofs.Ytpognhkidocglaa.MMinuteBack Go.Proofs.YtpognhkidocglaaW.PrintWords Go.Proofs.YtpognhkidocglaaW.PrintLast

theorem w64 {x : Int} (h0 : -9223372036854775808 ≤ x) (h1 : x ≤ 9223372036854775807) : wrap64 x = x := by
  unfold wrap64
  omega
theorem tmod_nn {a : Int} (h : 0 ≤ a) (b : Int) : Int.tmod a b = a % b := by
  rw [Int.tmod_eq_emod_of_nonneg h]
theorem tdiv_nn {a : Int} (h : 0 ≤ a) (b : Int) : Int.tdiv a b = a / b := by
  rw [Int.tdiv_eq_ediv_of_nonneg h]
theorem ev_succ {α : Type} {g : Nat → Option α} {r : α} (h : Ev (fun k => g (k + 1)) r) : Ev g r := by
  obtain ⟨K, h⟩ := h
  refine ⟨K + 1, fun n hn => ?_⟩
  obtain ⟨m, rfl⟩ : ∃ m, n = m + 1 := ⟨n - 1, by omega⟩
  exact h m (by omega)

def IR (x : Int) : Prop := -9223372036854775808 ≤ x ∧ x ≤ 9223372036854775807
theorem ir_of {x : Int} (h : (Lit.int .i64 x).wf = true) : IR x := by simpa [IR, Lit.wf, IntKind.min, IntKind.max, IntKind.signed, IntKind.bits] using h
theorem rd_drop (xs : List Int) (i : Nat) (h : i < xs.length) : xs.drop i = rd xs (i : Int) :: xs.drop (i + 1) := by
  rw [List.drop_eq_getElem_cons h]
  simp [rd, h]
theorem rd_mem (xs : List Int) (i : Nat) (h : i < xs.length) : rd xs (i : Int) ∈ xs := by
  simp [rd, h]

def addS : List Int → Int → Int × Int
  | [], n => (n, 0)
  | x :: l, n => if n + x > 9223372036854775807 ∨ n + x < -9223372036854775808 then (0, 19) else addS l (n + x)
theorem madd_l0 (l : List Int) (hl : l.length ≤ 140737488351232) (hr : ∀ x ∈ l, IR x) (d : Nat) : ∀ (i : Nat) (n : Int), i + d = l.length → IR n →
    Ev (fun k => minute_Add.l0 k n l (l.length : Int) (i : Int)) (addS (l.drop i) n) := by
  induction d with
  | zero =>
    intro i n hi hn
    rw [List.drop_of_length_le (by omega)]
    refine ev_succ ?_
    simp only [minute_Add.l0, if_neg (show ¬ (i : Int) < (l.length : Int) by omega)]
    exact Ev.now _
  | succ d ih =>
    intro i n hi hn
    rw [rd_drop l i (by omega)]
    have hx := hr _ (rd_mem l i (by omega))
    refine ev_succ ?_
    simp only [minute_Add.l0, addS]
    simp only [if_pos (show (i : Int) < (l.length : Int) by omega), if_pos (show (0 : Int) ≤ (i : Int) by omega), w64 (x := (i : Int) + 1) (by omega) (by omega)]
    have h := ih (i + 1) (n + rd l (i : Int)) (by omega)
    rw [show (((i + 1 : Nat) : Int)) = (i : Int) + 1 by omega] at h
    generalize rd l (i : Int) = x at hx h
    unfold IR at hn hx h
    by_cases ho : n + x > 9223372036854775807 ∨ n + x < -9223372036854775808
    · simp only [if_pos ho]
      by_cases hx0 : x > 0
      · simp only [if_pos hx0, w64 (x := 9223372036854775807 - x) (by omega) (by omega), if_pos (show n > 9223372036854775807 - x by omega)]
        exact Ev.now _
      · simp only [if_neg hx0, if_pos (show x < 0 by omega), w64 (x := -9223372036854775808 - x) (by omega) (by omega), if_pos (show n < -9223372036854775808 - x by omega)]
        exact Ev.now _
    · simp only [if_neg ho, w64 (x := n + x) (by omega) (by omega)]
      by_cases hx0 : x > 0
      · simp only [if_pos hx0, w64 (x := 9223372036854775807 - x) (by omega) (by omega), if_neg (show ¬ n > 9223372036854775807 - x by omega), if_neg (show ¬ x < 0 by omega)]
        exact h (by omega)
      · by_cases hx1 : x < 0
        · simp only [if_neg hx0, if_pos hx1, w64 (x := -9223372036854775808 - x) (by omega) (by omega), if_neg (show ¬ n < -9223372036854775808 - x by omega)]
          exact h (by omega)
        · simp only [if_neg hx0, if_neg hx1]
          exact h (by omega)
theorem madd_f (l : List Int) (hl : l.length ≤ 140737488351232) (hr : ∀ x ∈ l, IR x) : Ev (fun k => minute_Add.f k l) (addS l 0) := by
  unfold minute_Add.f
  exact madd_l0 l hl hr l.length 0 0 (by omega) (by unfold IR; omega)
def twoS (a b : Int) : Int × Int := if a + b > 9223372036854775807 ∨ a + b < -9223372036854775808 then (0, 19) else (a + b, 0)
theorem addS_two (a b : Int) (ha : IR a) : addS [a, b] 0 = twoS a b := by
  unfold IR at ha
  simp only [addS, twoS]
  rw [if_neg (by omega), Int.zero_add]
theorem madd_two (a b : Int) (ha : IR a) (hb : IR b) : Ev (fun k => minute_Add.f k [a, b]) (twoS a b) := by
  rw [← addS_two a b ha]
  refine madd_f _ (by simp) ?_
  intro x hx
  simp only [List.mem_cons, List.not_mem_nil, or_false] at hx
  rcases hx with rfl | rfl <;> assumption
def divS (a b : Int) : Int × Int × Int := if b < 1 then (0, 0, 1) else (a / b, a % b, 0)
theorem div_in {a b : Int} (ha : IR a) (hb : 1 ≤ b) : IR (a / b) := by
  unfold IR at *
  rcases Int.le_total 0 a with h | h
  · have h1 := Int.ediv_nonneg h (show 0 ≤ b by omega)
    have h2 := Int.ediv_le_self b h
    omega
  · have h1 : a ≤ a / b := (Int.le_ediv_iff_mul_le (by omega)).2 (by
      have := Int.mul_le_mul_of_nonpos_left h hb
      simpa using this)
    have h2 : a / b ≤ 0 := by
      have := Int.ediv_le_ediv (show 0 < b by omega) h
      simpa using this
    omega
theorem tdm {a b : Int} (hb : 1 ≤ b) : (if Int.tmod a b < 0 then Int.tdiv a b - 1 else Int.tdiv a b) = a / b ∧ (if Int.tmod a b < 0 then Int.tmod a b + b else Int.tmod a b) = a % b := by
  have h1 := Int.mul_tdiv_add_tmod a b
  have h2 := Int.tmod_lt_of_pos a (show 0 < b by omega)
  have h3 : -b < Int.tmod a b := by
    have := Int.lt_tmod_of_pos a (show 0 < b by omega)
    omega
  have key : ∀ q r : Int, b * q + r = a → 0 ≤ r → r < b → q = a / b ∧ r = a % b := by
    intro q r h h0 hlt
    have := (Int.ediv_emod_unique (a := a) (b := b) (q := q) (r := r) (by omega)).2 ⟨by omega, h0, hlt⟩
    exact ⟨this.1.symm, this.2.symm⟩
  split
  · refine key _ _ ?_ (by omega) (by omega)
    rw [Int.mul_sub]
    omega
  · exact key _ _ h1 (by omega) h2
theorem tdiv_in {a b : Int} (ha : IR a) (hb : 1 ≤ b) : IR (Int.tdiv a b) := by
  rcases Int.le_total 0 a with h | h
  · rw [tdiv_nn h]
    exact div_in ha hb
  · have h1 := (tdm (a := a) hb).1
    have h2 := div_in ha hb
    have h3 : a / b ≤ 0 := by
      have := Int.ediv_le_ediv (show 0 < b by omega) h
      simpa using this
    unfold IR at *
    split at h1 <;> omega
theorem div_f (a b : Int) (ha : IR a) (hb : IR b) : minute_Div.f a b = some (divS a b) := by
  unfold minute_Div.f divS
  by_cases h : b < 1
  · rw [if_pos h, if_pos h]
  · rw [if_neg h, if_neg h, if_neg (by omega)]
    obtain ⟨h1, h2⟩ := tdm (a := a) (b := b) (by omega)
    have h3 := tdiv_in ha (show 1 ≤ b by omega)
    have h4 := div_in ha (show 1 ≤ b by omega)
    have h5 := Int.emod_nonneg a (show b ≠ 0 by omega)
    have h6 := Int.emod_lt_of_pos a (show 0 < b by omega)
    unfold IR at *
    rw [w64 (x := Int.tdiv a b) h3.1 h3.2]
    split
    · rename_i hc
      rw [if_pos hc] at h1 h2
      rw [h1, h2, w64 h4.1 h4.2, w64 (by omega) (by omega)]
    · rename_i hc
      rw [if_neg hc] at h1 h2
      rw [h1, h2]
def upS (n st : Int) : Int × Int := if st < 1 then (0, 1) else if n % st = 0 then (n, 0) else twoS n (st - n % st)
theorem up_f (n st : Int) (hn : IR n) (hs : IR st) : Ev (fun k => minute_Up.f k n st) (upS n st) := by
  unfold minute_Up.f
  simp only [div_f n st hn hs, Option.bind_some, divS, upS]
  by_cases h : st < 1
  · simp only [if_pos h, if_neg (show ¬ (1 : Int) = 0 by omega)]
    exact Ev.now _
  · have h5 := Int.emod_nonneg n (show st ≠ 0 by omega)
    have h6 := Int.emod_lt_of_pos n (show 0 < st by omega)
    simp only [if_neg h, if_true]
    by_cases h2 : n % st = 0
    · simp only [if_pos h2, if_neg (show ¬ n % st > 0 by omega)]
      exact Ev.now _
    · unfold IR at *
      simp only [if_neg h2, if_pos (show n % st > 0 by omega), w64 (x := st - n % st) (by omega) (by omega)]
      exact Ev.bind (madd_two _ _ hn (by unfold IR; omega)) (Ev.now _)
theorem malive_f : Ev (fun k => haulierlaw01_alive.f k) true := by
  unfold haulierlaw01_alive.f
  simp only [div_f (-7) 5 (by unfold IR; omega) (by unfold IR; omega), Option.bind_some]
  refine Ev.bind (up_f 7 5 (by unfold IR; omega) (by unfold IR; omega)) ?_
  refine Ev.bind (madd_two 9223372036854775807 1 (by unfold IR; omega) (by unfold IR; omega)) ?_
  exact Ev.now _

def subS (a b : Int) : Int × Int := if a - b > 9223372036854775807 ∨ a - b < -9223372036854775808 then (0, 19) else (a - b, 0)
theorem sub_f (a b : Int) (ha : IR a) (hb : IR b) : minute_Sub.f a b = some (subS a b) := by
  unfold IR at *
  unfold minute_Sub.f subS
  by_cases h : a - b > 9223372036854775807 ∨ a - b < -9223372036854775808
  · rw [if_pos h, if_pos]
    simp only [bne_iff_ne, ne_eq, decide_eq_decide]
    unfold wrap64
    omega
  · rw [if_neg h, w64 (by omega) (by omega), if_neg]
    simp only [bne_iff_ne, ne_eq, decide_eq_decide]
    omega
def mulS (a b : Int) : Int × Int := if a * b > 9223372036854775807 ∨ a * b < -9223372036854775808 then (0, 19) else (a * b, 0)
theorem mul64_f (x y : Int) (hx0 : 0 ≤ x) (hx : x < 18446744073709551616) (hy0 : 0 ≤ y) (hy : y < 18446744073709551616) : bits_Mul64.f x y = some (x * y / 18446744073709551616, x * y % 18446744073709551616) := by
  unfold bits_Mul64.f
  rw [and_low32 x hx0 hx, and_low32 y hy0 hy]
  simp only [IntKind.wrap_u64]
  rw [and_low32 _ (Int.emod_nonneg _ (by omega)) (Int.emod_lt_of_pos _ (by omega))]
  rw [mul64_arith x y hx0 hx hy0 hy]
theorem size_f (a : Int) (ha : IR a) : minute_size.f a = some (a.natAbs : Int) := by
  unfold IR at ha
  unfold minute_size.f
  simp only [IntKind.wrap_u64]
  split
  · congr 1
    omega
  · congr 1
    omega
theorem mul_f (a b : Int) (ha : IR a) (hb : IR b) : Ev (fun _ => minute_Mul.f a b) (mulS a b) := by
  unfold minute_Mul.f
  rw [size_f a ha, size_f b hb]
  simp only [Option.bind_some]
  unfold IR at ha hb
  rw [mul64_f _ _ (by omega) (by omega) (by omega) (by omega)]
  simp only [Option.bind_some]
  have hp : ((a.natAbs : Int) * (b.natAbs : Int)) = ((a * b).natAbs : Int) := by rw [Int.natAbs_mul, Int.natCast_mul]
  rw [hp]
  have hs : (a < 0 ↔ b < 0) → 0 ≤ a * b := by
    intro h
    rcases Int.le_total 0 a with h1 | h1
    · exact Int.mul_nonneg h1 (by omega)
    · by_cases h0 : a = 0
      · subst h0; simp
      · exact Int.mul_nonneg_of_nonpos_of_nonpos h1 (by omega)
  have hd : ¬ (a < 0 ↔ b < 0) → a * b ≤ 0 := by
    intro h
    by_cases h1 : a < 0
    · exact Int.mul_nonpos_of_nonpos_of_nonneg (by omega) (by omega)
    · exact Int.mul_nonpos_of_nonneg_of_nonpos (by omega) (by omega)
  unfold mulS
  generalize a * b = p at *
  have plus : (a < 0 ↔ b < 0) → (if (p.natAbs : Int) / 18446744073709551616 = 0 then (if (p.natAbs : Int) % 18446744073709551616 > 9223372036854775807 then some ((0 : Int), (19 : Int)) else some (wrap64 ((p.natAbs : Int) % 18446744073709551616), 0)) else some (0, 19)) = some (if p > 9223372036854775807 ∨ p < -9223372036854775808 then (0, 19) else (p, 0)) := by
    intro h
    have h2 := hs h
    by_cases ho : p > 9223372036854775807 ∨ p < -9223372036854775808
    · rw [if_pos ho]
      split
      · rw [if_pos (by omega)]
      · rfl
    · rw [if_neg ho, if_pos (by omega), if_neg (by omega), w64 (by omega) (by omega), show (p.natAbs : Int) % 18446744073709551616 = p by omega]
  have minus : ¬ (a < 0 ↔ b < 0) → (if (p.natAbs : Int) / 18446744073709551616 = 0 then (if (p.natAbs : Int) % 18446744073709551616 > 9223372036854775808 then some ((0 : Int), (19 : Int)) else some (wrap64 (IntKind.u64.wrap (-((p.natAbs : Int) % 18446744073709551616))), 0)) else some (0, 19)) = some (if p > 9223372036854775807 ∨ p < -9223372036854775808 then (0, 19) else (p, 0)) := by
    intro h
    have h2 := hd h
    by_cases ho : p > 9223372036854775807 ∨ p < -9223372036854775808
    · rw [if_pos ho]
      split
      · rw [if_pos (by omega)]
      · rfl
    · have hw : wrap64 (IntKind.u64.wrap (-((p.natAbs : Int) % 18446744073709551616))) = p := by
        rw [IntKind.wrap_u64]
        unfold wrap64
        omega
      rw [if_neg ho, if_pos (by omega), if_neg (by omega), hw]
  by_cases h1 : a < 0
  · by_cases h2 : b < 0
    · simp only [if_pos h1, if_pos h2]
      rw [plus (by omega)]
      exact Ev.now _
    · simp only [if_pos h1, if_neg h2]
      rw [minus (by omega)]
      exact Ev.now _
  · by_cases h2 : b < 0
    · simp only [if_neg h1, if_pos h2]
      rw [minus (by omega)]
      exact Ev.now _
    · simp only [if_neg h1, if_neg h2]
      rw [plus (by omega)]
      exact Ev.now _

theorem mb_j0 (a b : Int) (ha : IR a) (hb : IR b) : Ev (fun k => haulierlaw01_MinuteBack.j0 k a b) true := by
  refine ev_succ ?_
  simp only [haulierlaw01_MinuteBack.j0, div_f a b ha hb, Option.bind_some, divS]
  by_cases h : b < 1
  · simp only [if_pos h, if_neg (show ¬ (1 : Int) = 0 by omega), if_true]
    exact Ev.bind malive_f (Ev.now _)
  · have h1 := Int.emod_nonneg a (show b ≠ 0 by omega)
    have h2 := Int.emod_lt_of_pos a (show 0 < b by omega)
    have h3 := Int.ediv_mul_add_emod a b
    have h4 := div_in ha (show 1 ≤ b by omega)
    have h5 : 0 ≤ a → 0 ≤ a / b * b := fun h0 => Int.mul_nonneg (Int.ediv_nonneg h0 (by omega)) (by omega)
    have h6 : 0 ≤ a % b := h1
    simp only [if_neg h, if_true]
    refine Ev.bind (mul_f _ _ h4 hb) ?_
    unfold mulS
    generalize a / b * b = p at *
    unfold IR at ha hb
    by_cases ho : p > 9223372036854775807 ∨ p < -9223372036854775808
    · simp only [if_pos ho, if_neg (show ¬ (19 : Int) = 0 by omega), if_pos (show a < 0 by omega), if_pos (show a % b ≥ 0 by omega), if_pos h2]
      exact Ev.bind malive_f (Ev.now _)
    · simp only [if_neg ho, if_true]
      refine Ev.bind (madd_two _ _ (by unfold IR; omega) (by unfold IR; omega)) ?_
      have h7 : twoS p (a % b) = (a, 0) := by
        unfold twoS
        rw [h3, if_neg (by omega)]
      simp only [h7, if_true, if_pos (show a % b ≥ 0 by omega), if_pos h2]
      exact Ev.bind malive_f (Ev.now _)
theorem MinuteBack : haulierlaw01_MinuteBack.Pure := by
  intro a b ha hb
  refine Ev.rounds ?_
  have ha := ir_of ha
  have hb := ir_of hb
  unfold haulierlaw01_MinuteBack.f
  refine Ev.bind (madd_two a b ha hb) ?_
  unfold twoS
  by_cases ho : a + b > 9223372036854775807 ∨ a + b < -9223372036854775808
  · simp only [if_pos ho, if_neg (show ¬ (19 : Int) = 0 by omega)]
    exact mb_j0 a b ha hb
  · simp only [if_neg ho, if_true, sub_f (a + b) b (by unfold IR; omega) hb, Option.bind_some]
    have h7 : subS (a + b) b = (a, 0) := by
      unfold IR at ha
      unfold subS
      rw [if_neg (by omega)]
      congr 1
      omega
    simp only [h7, if_true]
    exact mb_j0 a b ha hb


end Go.Proofs.Ytpognhkidocglaa.Pure
