/- What two numbers are less each other, times each other and by each other is what the reference says, or the error: for all pairs of 64-bit numbers. -/
import Derived.Test.YtpognhkidocglaaMMinuteReckonsx2
import Derived.Laws.MathBits
set_option linter.unusedVariables false
set_option linter.unusedSimpArgs false
namespace Go.Proofs.Ytpognhkidocglaa.Pure
open Go.RowKit Go.Proofs.Ytpognhkidocglaa.MMinuteReckons Go.Proofs.YtpognhkidocglaaW.PrintWords Go.Proofs.YtpognhkidocglaaW.PrintLast

theorem w64 {x : Int} (h0 : -9223372036854775808 ≤ x) (h1 : x ≤ 9223372036854775807) : wrap64 x = x := by
  unfold wrap64
  omega
theorem tmod_nn {a : Int} (h : 0 ≤ a) (b : Int) : Int.tmod a b = a % b := by
  rw [Int.tmod_eq_emod_of_nonneg h]
theorem tdiv_nn {a : Int} (h : 0 ≤ a) (b : Int) : Int.tdiv a b = a / b := by
  rw [Int.tdiv_eq_ediv_of_nonneg h]
theorem ev_succ {α : Type} {g : Nat → Option α} {r : α} (h : Ev (fun k => g (k + 1)) r) : Ev g r := by
  obtain ⟨K, h⟩ := h
  refine ⟨K + 1, fun n hn => ?_⟩
  obtain ⟨m, rfl⟩ : ∃ m, n = m + 1 := ⟨n - 1, by omega⟩
  exact h m (by omega)

def IR (x : Int) : Prop := -9223372036854775808 ≤ x ∧ x ≤ 9223372036854775807
theorem ir_of {x : Int} (h : (Lit.int .i64 x).wf = true) : IR x := by simpa [IR, Lit.wf, IntKind.min, IntKind.max, IntKind.signed, IntKind.bits] using h
theorem rd_drop (xs : List Int) (i : Nat) (h : i < xs.length) : xs.drop i = rd xs (i : Int) :: xs.drop (i + 1) := by
  rw [List.drop_eq_getElem_cons h]
  simp [rd, h]
theorem rd_mem (xs : List Int) (i : Nat) (h : i < xs.length) : rd xs (i : Int) ∈ xs := by
  simp [rd, h]

def addS : List Int → Int → Int × Int
  | [], n => (n, 0)
  | x :: l, n => if n + x > 9223372036854775807 ∨ n + x < -9223372036854775808 then (0, 19) else addS l (n + x)
theorem madd_l0 (l : List Int) (hl : l.length ≤ 140737488351232) (hr : ∀ x ∈ l, IR x) (d : Nat) : ∀ (i : Nat) (n : Int), i + d = l.length → IR n →
    Ev (fun k => minute_Add.l0 k n l (l.length : Int) (i : Int)) (addS (l.drop i) n) := by
  induction d with
  | zero =>
    intro i n hi hn
    rw [List.drop_of_length_le (by omega)]
    refine ev_succ ?_
    simp only [minute_Add.l0, if_neg (show ¬ (i : Int) < (l.length : Int) by omega)]
    exact Ev.now _
  | succ d ih =>
    intro i n hi hn
    rw [rd_drop l i (by omega)]
    have hx := hr _ (rd_mem l i (by omega))
    refine ev_succ ?_
    simp only [minute_Add.l0, addS]
    simp only [if_pos (show (i : Int) < (l.length : Int) by omega), if_pos (show (0 : Int) ≤ (i : Int) by omega), w64 (x := (i : Int) + 1) (by omega) (by omega)]
    have h := ih (i + 1) (n + rd l (i : Int)) (by omega)
    rw [show (((i + 1 : Nat) : Int)) = (i : Int) + 1 by omega] at h
    generalize rd l (i : Int) = x at hx h
    unfold IR at hn hx h
    by_cases ho : n + x > 9223372036854775807 ∨ n + x < -9223372036854775808
    · simp only [if_pos ho]
      by_cases hx0 : x > 0
      · simp only [if_pos hx0, w64 (x := 9223372036854775807 - x) (by omega) (by omega), if_pos (show n > 9223372036854775807 - x by omega)]
        exact Ev.now _
      · simp only [if_neg hx0, if_pos (show x < 0 by omega), w64 (x := -9223372036854775808 - x) (by omega) (by omega), if_pos (show n < -9223372036854775808 - x by omega)]
        exact Ev.now _
    · simp only [if_neg ho, w64 (x := n + x) (by omega) (by omega)]
      by_cases hx0 : x > 0
      · simp only [if_pos hx0, w64 (x := 9223372036854775807 - x) (by omega) (by omega), if_neg (show ¬ n > 9223372036854775807 - x by omega), if_neg (show ¬ x < 0 by omega)]
        exact h (by omega)
      · by_cases hx1 : x < 0
        · simp only [if_neg hx0, if_pos hx1, w64 (x := -9223372036854775808 - x) (by omega) (by omega), if_neg (show ¬ n < -9223372036854775808 - x by omega)]
          exact h (by omega)
        · simp only [if_neg hx0, if_neg hx1]
          exact h (by omega)
theorem madd_f (l : List Int) (hl : l.length ≤ 140737488351232) (hr : ∀ x ∈ l, IR x) : Ev (fun k => minute_Add.f k l) (addS l 0) := by
  unfold minute_Add.f
  exact madd_l0 l hl hr l.length 0 0 (by omega) (by unfold IR; omega)
def twoS (a b : Int) : Int × Int := if a + b > 9223372036854775807 ∨ a + b < -9223372036854775808 then (0, 19) else (a + b, 0)
theorem addS_two (a b : Int) (ha : IR a) : addS [a, b] 0 = twoS a b := by
  unfold IR at ha
  simp only [addS, twoS]
  rw [if_neg (by omega), Int.zero_add]
theorem madd_two (a b : Int) (ha : IR a) (hb : IR b) : Ev (fun k => minute_Add.f k [a, b]) (twoS a b) := by
  rw [← addS_two a b ha]
  refine madd_f _ (by simp) ?_
  intro x hx
  simp only [List.mem_cons, List.not_mem_nil, or_false] at hx
  rcases hx with rfl | rfl <;> assumption
def divS (a b : Int) : Int × Int × Int := if b < 1 then (0, 0, 1) else (a / b, a % b, 0)
theorem div_in {a b : Int} (ha : IR a) (hb : 1 ≤ b) : IR (a / b) := by
  unfold IR at *
  rcases Int.le_total 0 a with h | h
  · have h1 := Int.ediv_nonneg h (show 0 ≤ b by omega)
    have h2 := Int.ediv_le_self b h
    omega
  · have h1 : a ≤ a / b := (Int.le_ediv_iff_mul_le (by omega)).2 (by
      have := Int.mul_le_mul_of_nonpos_left h hb
      simpa using this)
    have h2 : a / b ≤ 0 := by
      have := Int.ediv_le_ediv (show 0 < b by omega) h
      simpa using this
    omega
theorem tdm {a b : Int} (hb : 1 ≤ b) : (if Int.tmod a b < 0 then Int.tdiv a b - 1 else Int.tdiv a b) = a / b ∧ (if Int.tmod a b < 0 then Int.tmod a b + b else Int.tmod a b) = a % b := by
  have h1 := Int.mul_tdiv_add_tmod a b
  have h2 := Int.tmod_lt_of_pos a (show 0 < b by omega)
  have h3 : -b < Int.tmod a b := by
    have := Int.lt_tmod_of_pos a (show 0 < b by omega)
    omega
  have key : ∀ q r : Int, b * q + r = a → 0 ≤ r → r < b → q = a / b ∧ r = a % b := by
    intro q r h h0 hlt
    have := (Int.ediv_emod_unique (a := a) (b := b) (q := q) (r := r) (by omega)).2 ⟨by omega, h0, hlt⟩
    exact ⟨this.1.symm, this.2.symm⟩
  split
  · refine key _ _ ?_ (by omega) (by omega)
    rw [Int.mul_sub]
    omega
  · exact key _ _ h1 (by omega) h2
theorem tdiv_in {a b : Int} (ha : IR a) (hb : 1 ≤ b) : IR (Int.tdiv a b) := by
  rcases Int.le_total 0 a with h | h
  · rw [tdiv_nn h]
    exact div_in ha hb
  · have h1 := (tdm (a := a) hb).1
    have h2 := div_in ha hb
    have h3 : a / b ≤ 0 := by
      have := Int.ediv_le_ediv (show 0 < b by omega) h
      simpa using this
    unfold IR at *
    split at h1 <;> omega
theorem div_f (a b : Int) (ha : IR a) (hb : IR b) : minute_Div.f a b = some (divS a b) := by
  unfold minute_Div.f divS
  by_cases h : b < 1
  · rw [if_pos h, if_pos h]
  · rw [if_neg h, if_neg h, if_neg (by omega)]
    obtain ⟨h1, h2⟩ := tdm (a := a) (b := b) (by omega)
    have h3 := tdiv_in ha (show 1 ≤ b by omega)
    have h4 := div_in ha (show 1 ≤ b by omega)
    have h5 := Int.emod_nonneg a (show b ≠ 0 by omega)
    have h6 := Int.emod_lt_of_pos a (show 0 < b by omega)
    unfold IR at *
    rw [w64 (x := Int.tdiv a b) h3.1 h3.2]
    split
    · rename_i hc
      rw [if_pos hc] at h1 h2
      rw [h1, h2, w64 h4.1 h4.2, w64 (by omega) (by omega)]
    · rename_i hc
      rw [if_neg hc] at h1 h2
      rw [h1, h2]
def upS (n st : Int) : Int × Int := if st < 1 then (0, 1) else if n % st = 0 then (n, 0) else twoS n (st - n % st)
theorem up_f (n st : Int) (hn : IR n) (hs : IR st) : Ev (fun k => minute_Up.f k n st) (upS n st) := by
  unfold minute_Up.f
  simp only [div_f n st hn hs, Option.bind_some, divS, upS]
  by_cases h : st < 1
  · simp only [if_pos h, if_neg (show ¬ (1 : Int) = 0 by omega)]
    exact Ev.now _
  · have h5 := Int.emod_nonneg n (show st ≠ 0 by omega)
    have h6 := Int.emod_lt_of_pos n (show 0 < st by omega)
    simp only [if_neg h, if_true]
    by_cases h2 : n % st = 0
    · simp only [if_pos h2, if_neg (show ¬ n % st > 0 by omega)]
      exact Ev.now _
    · unfold IR at *
      simp only [if_neg h2, if_pos (show n % st > 0 by omega), w64 (x := st - n % st) (by omega) (by omega)]
      exact Ev.bind (madd_two _ _ hn (by unfold IR; omega)) (Ev.now _)
theorem malive_f : Ev (fun k => haulierlaw01_alive.f k) true := by
  unfold haulierlaw01_alive.f
  simp only [div_f (-7) 5 (by unfold IR; omega) (by unfold IR; omega), Option.bind_some]
  refine Ev.bind (up_f 7 5 (by unfold IR; omega) (by unfold IR; omega)) ?_
  refine Ev.bind (madd_two 9223372036854775807 1 (by unfold IR; omega) (by unfold IR; omega)) ?_
  exact Ev.now _

theorem rdiv_f (a b : Int) (ha : IR a) (hb : IR b) : haulierref01_Div.f a b = some (divS a b) := div_f a b ha hb

def subS (a b : Int) : Int × Int := if a - b > 9223372036854775807 ∨ a - b < -9223372036854775808 then (0, 19) else (a - b, 0)
theorem sub_f (a b : Int) (ha : IR a) (hb : IR b) : minute_Sub.f a b = some (subS a b) := by
  unfold IR at *
  unfold minute_Sub.f subS
  by_cases h : a - b > 9223372036854775807 ∨ a - b < -9223372036854775808
  · rw [if_pos h, if_pos]
    simp only [bne_iff_ne, ne_eq, decide_eq_decide]
    unfold wrap64
    omega
  · rw [if_neg h, w64 (by omega) (by omega), if_neg]
    simp only [bne_iff_ne, ne_eq, decide_eq_decide]
    omega
def mulS (a b : Int) : Int × Int := if a * b > 9223372036854775807 ∨ a * b < -9223372036854775808 then (0, 19) else (a * b, 0)
theorem mul64_f (x y : Int) (hx0 : 0 ≤ x) (hx : x < 18446744073709551616) (hy0 : 0 ≤ y) (hy : y < 18446744073709551616) : bits_Mul64.f x y = some (x * y / 18446744073709551616, x * y % 18446744073709551616) := by
  unfold bits_Mul64.f
  rw [and_low32 x hx0 hx, and_low32 y hy0 hy]
  simp only [IntKind.wrap_u64]
  rw [and_low32 _ (Int.emod_nonneg _ (by omega)) (Int.emod_lt_of_pos _ (by omega))]
  rw [mul64_arith x y hx0 hx hy0 hy]
theorem size_f (a : Int) (ha : IR a) : minute_size.f a = some (a.natAbs : Int) := by
  unfold IR at ha
  unfold minute_size.f
  simp only [IntKind.wrap_u64]
  split
  · congr 1
    omega
  · congr 1
    omega
theorem mul_f (a b : Int) (ha : IR a) (hb : IR b) : Ev (fun _ => minute_Mul.f a b) (mulS a b) := by
  unfold minute_Mul.f
  rw [size_f a ha, size_f b hb]
  simp only [Option.bind_some]
  unfold IR at ha hb
  rw [mul64_f _ _ (by omega) (by omega) (by omega) (by omega)]
  simp only [Option.bind_some]
  have hp : ((a.natAbs : Int) * (b.natAbs : Int)) = ((a * b).natAbs : Int) := by rw [Int.natAbs_mul, Int.natCast_mul]
  rw [hp]
  have hs : (a < 0 ↔ b < 0) → 0 ≤ a * b := by
    intro h
    rcases Int.le_total 0 a with h1 | h1
    · exact Int.mul_nonneg h1 (by omega)
    · by_cases h0 : a = 0
      · subst h0; simp
      · exact Int.mul_nonneg_of_nonpos_of_nonpos h1 (by omega)
  have hd : ¬ (a < 0 ↔ b < 0) → a * b ≤ 0 := by
    intro h
    by_cases h1 : a < 0
    · exact Int.mul_nonpos_of_nonpos_of_nonneg (by omega) (by omega)
    · exact Int.mul_nonpos_of_nonneg_of_nonpos (by omega) (by omega)
  unfold mulS
  generalize a * b = p at *
  have plus : (a < 0 ↔ b < 0) → (if (p.natAbs : Int) / 18446744073709551616 = 0 then (if (p.natAbs : Int) % 18446744073709551616 > 9223372036854775807 then some ((0 : Int), (19 : Int)) else some (wrap64 ((p.natAbs : Int) % 18446744073709551616), 0)) else some (0, 19)) = some (if p > 9223372036854775807 ∨ p < -9223372036854775808 then (0, 19) else (p, 0)) := by
    intro h
    have h2 := hs h
    by_cases ho : p > 9223372036854775807 ∨ p < -9223372036854775808
    · rw [if_pos ho]
      split
      · rw [if_pos (by omega)]
      · rfl
    · rw [if_neg ho, if_pos (by omega), if_neg (by omega), w64 (by omega) (by omega), show (p.natAbs : Int) % 18446744073709551616 = p by omega]
  have minus : ¬ (a < 0 ↔ b < 0) → (if (p.natAbs : Int) / 18446744073709551616 = 0 then (if (p.natAbs : Int) % 18446744073709551616 > 9223372036854775808 then some ((0 : Int), (19 : Int)) else some (wrap64 (IntKind.u64.wrap (-((p.natAbs : Int) % 18446744073709551616))), 0)) else some (0, 19)) = some (if p > 9223372036854775807 ∨ p < -9223372036854775808 then (0, 19) else (p, 0)) := by
    intro h
    have h2 := hd h
    by_cases ho : p > 9223372036854775807 ∨ p < -9223372036854775808
    · rw [if_pos ho]
      split
      · rw [if_pos (by omega)]
      · rfl
    · have hw : wrap64 (IntKind.u64.wrap (-((p.natAbs : Int) % 18446744073709551616))) = p := by
        rw [IntKind.wrap_u64]
        unfold wrap64
        omega
      rw [if_neg ho, if_pos (by omega), if_neg (by omega), hw]
  by_cases h1 : a < 0
  · by_cases h2 : b < 0
    · simp only [if_pos h1, if_pos h2]
      rw [plus (by omega)]
      exact Ev.now _
    · simp only [if_pos h1, if_neg h2]
      rw [minus (by omega)]
      exact Ev.now _
  · by_cases h2 : b < 0
    · simp only [if_neg h1, if_pos h2]
      rw [minus (by omega)]
      exact Ev.now _
    · simp only [if_neg h1, if_neg h2]
      rw [plus (by omega)]
      exact Ev.now _

theorem rsub_f (a b : Int) (ha : IR a) (hb : IR b) : haulierref01_Sub.f a b = some (subS a b) := by
  unfold IR at *
  unfold haulierref01_Sub.f subS
  by_cases h : a - b > 9223372036854775807 ∨ a - b < -9223372036854775808
  · rw [if_pos h]
    by_cases hx0 : b < 0
    · rw [if_pos hx0, w64 (x := 9223372036854775807 + b) (by omega) (by omega), if_pos (by omega)]
    · rw [if_neg hx0, if_pos (by omega), w64 (x := -9223372036854775808 + b) (by omega) (by omega), if_pos (by omega)]
  · rw [if_neg h, w64 (x := a - b) (by omega) (by omega)]
    by_cases hx0 : b < 0
    · rw [if_pos hx0, w64 (x := 9223372036854775807 + b) (by omega) (by omega), if_neg (by omega), if_neg (by omega)]
    · rw [if_neg hx0]
      split
      · rw [w64 (x := -9223372036854775808 + b) (by omega) (by omega), if_neg (by omega)]
      · rfl
theorem w64_mod (x : Int) : ∃ m : Int, wrap64 x = x - m * 18446744073709551616 ∧ -9223372036854775808 ≤ wrap64 x ∧ wrap64 x ≤ 9223372036854775807 := by
  refine ⟨(x + 9223372036854775808) / 18446744073709551616, ?_, ?_, ?_⟩ <;> unfold wrap64 <;> omega
theorem tdiv_back (a b : Int) (ha : IR a) (hb : IR b) (hb0 : b ≠ 0) (hb1 : b ≠ -1) (ha1 : a ≠ -1) : (wrap64 (Int.tdiv (wrap64 (a * b)) b) = a) ↔ ¬ (a * b > 9223372036854775807 ∨ a * b < -9223372036854775808) := by
  obtain ⟨m, hm, hlo, hhi⟩ := w64_mod (a * b)
  constructor
  · intro h ho
    generalize hc : wrap64 (a * b) = c at *
    have h1 := Int.mul_tdiv_add_tmod c b
    have hq : IR (Int.tdiv c b) := by
      have h2 : (Int.tdiv c b).natAbs ≤ c.natAbs := by
        rw [Int.natAbs_tdiv]
        exact Nat.div_le_self _ _
      have h3 : Int.tdiv c b ≠ 9223372036854775808 := by
        intro h4
        rw [h4] at h1
        have h5 : (Int.tmod c b).natAbs < b.natAbs := by
          rw [Int.natAbs_tmod]
          exact Nat.mod_lt _ (by omega)
        unfold IR at hb
        omega
      unfold IR
      omega
    rw [w64 hq.1 hq.2] at h
    rw [h] at h1
    have h5 : (Int.tmod c b).natAbs < b.natAbs := by
      rw [Int.natAbs_tmod]
      exact Nat.mod_lt _ (by omega)
    rw [Int.mul_comm] at h1
    generalize a * b = p at *
    unfold IR at hb
    omega
  · intro h
    rw [w64 (x := a * b) (by omega) (by omega), Int.mul_tdiv_cancel _ hb0, w64 ha.1 ha.2]
theorem rmul_j0 (a b : Int) (ha : IR a) (hb : IR b) (z : Bool) (hz : z = true ↔ a = 0 ∨ b = 0) : Ev (fun k => haulierref01_Mul.j0 k a b z) (mulS a b) := by
  refine ev_succ ?_
  simp only [haulierref01_Mul.j0]
  by_cases h : z = true
  · have h2 : a * b = 0 := by rcases hz.1 h with rfl | rfl <;> simp
    simp only [if_pos h, mulS, h2]
    exact Ev.now _
  · have h2 : ¬ (a = 0 ∨ b = 0) := fun h3 => h (hz.2 h3)
    simp only [if_neg h]
    by_cases h3 : a = -1
    · simp only [if_pos h3, rsub_f 0 b (by unfold IR; omega) hb, Option.bind_some]
      have h4 : mulS a b = subS 0 b := by
        subst h3
        unfold mulS subS
        rw [show (-1 : Int) * b = 0 - b by omega]
      rw [h4]
      exact Ev.now _
    · simp only [if_neg h3]
      by_cases h5 : b = -1
      · simp only [if_pos h5, rsub_f 0 a (by unfold IR; omega) ha, Option.bind_some]
        have h4 : mulS a b = subS 0 a := by
          subst h5
          unfold mulS subS
          rw [show a * (-1 : Int) = 0 - a by omega]
        rw [h4]
        exact Ev.now _
      · have h6 := tdiv_back a b ha hb (by omega) h5 h3
        simp only [if_neg h5, if_neg (show ¬ b = 0 by omega), mulS]
        by_cases h7 : a * b > 9223372036854775807 ∨ a * b < -9223372036854775808
        · simp only [if_pos h7, if_neg (show ¬ (wrap64 (Int.tdiv (wrap64 (a * b)) b) = a) from fun h8 => h6.1 h8 h7)]
          exact Ev.now _
        · have h8 := h6.2 h7
          rw [w64 (x := a * b) (by omega) (by omega)] at h8
          simp only [if_neg h7, w64 (x := a * b) (by omega) (by omega), if_pos h8]
          exact Ev.now _
theorem rmul_f (a b : Int) (ha : IR a) (hb : IR b) : Ev (fun k => haulierref01_Mul.f k a b) (mulS a b) := by
  unfold haulierref01_Mul.f
  by_cases h : a = 0
  · simp only [if_pos h]
    exact rmul_j0 a b ha hb _ (by simp [h])
  · simp only [if_neg h]
    exact rmul_j0 a b ha hb _ (by simp [h])
theorem MinuteReckons : haulierlaw01_MinuteReckons.Pure := by
  intro a b ha hb
  refine Ev.rounds ?_
  have ha := ir_of ha
  have hb := ir_of hb
  unfold haulierlaw01_MinuteReckons.f
  simp only [sub_f a b ha hb, div_f a b ha hb, rsub_f a b ha hb, rdiv_f a b ha hb, Option.bind_some]
  refine Ev.bind (mul_f a b ha hb) ?_
  refine Ev.bind (rmul_f a b ha hb) ?_
  simp only [if_true]
  exact Ev.bind malive_f (Ev.now _)


end Go.Proofs.Ytpognhkidocglaa.Pure
