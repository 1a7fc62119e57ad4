/- The number of any change and the change of any number is what the reference says, or the error: for all 64-bit numbers. -/
import Derived.Test.YtjpnfhnmcgejhaaMDiscChangesx1
set_option linter.unusedVariables false
set_option linter.unusedSimpArgs false
namespace Go.Proofs.Ytjpnfhnmcgejhaa.Pure
open Go.RowKit Go.Proofs.Ytjpnfhnmcgejhaa.MDiscChanges Go.Proofs.YtjpnfhnmcgejhaaW.PrintWords Go.Proofs.YtjpnfhnmcgejhaaW.PrintLast

theorem w64 {x : Int} (h0 : -9223372036854775808 ≤ x) (h1 : x ≤ 9223372036854775807) : wrap64 x = x := by
  unfold wrap64
  omega
theorem tmod_nn {a : Int} (h : 0 ≤ a) (b : Int) : Int.tmod a b = a % b := by
  rw [Int.tmod_eq_emod_of_nonneg h]
theorem tdiv_nn {a : Int} (h : 0 ≤ a) (b : Int) : Int.tdiv a b = a / b := by
  rw [Int.tdiv_eq_ediv_of_nonneg h]
theorem ev_succ {α : Type} {g : Nat → Option α} {r : α} (h : Ev (fun k => g (k + 1)) r) : Ev g r := by
  obtain ⟨K, h⟩ := h
  refine ⟨K + 1, fun n hn => ?_⟩
  obtain ⟨m, rfl⟩ : ∃ m, n = m + 1 := ⟨n - 1, by omega⟩
  exact h m (by omega)

def IR (x : Int) : Prop := -9223372036854775808 ≤ x ∧ x ≤ 9223372036854775807
theorem ir_of {x : Int} (h : (Lit.int .i64 x).wf = true) : IR x := by simpa [IR, Lit.wf, IntKind.min, IntKind.max, IntKind.signed, IntKind.bits] using h
theorem rd_drop (xs : List Int) (i : Nat) (h : i < xs.length) : xs.drop i = rd xs (i : Int) :: xs.drop (i + 1) := by
  rw [List.drop_eq_getElem_cons h]
  simp [rd, h]
theorem rd_mem (xs : List Int) (i : Nat) (h : i < xs.length) : rd xs (i : Int) ∈ xs := by
  simp [rd, h]

theorem and2047 (x : Int) : Go.bits .and .i64 x 2047 = x % 2048 := by
  unfold Go.bits
  simp only [BitVec.toNat_and, BitVec.toNat_ofInt]
  have h1 : ((2047 : Int) % ((2 ^ IntKind.i64.bits : Nat) : Int)).toNat = 2 ^ 11 - 1 := by decide
  have h2 : ((2 ^ IntKind.i64.bits : Nat) : Int) = 18446744073709551616 := by decide
  rw [h1, Nat.and_two_pow_sub_one_eq_mod, IntKind.wrap_i64, h2]
  omega
theorem or11 {b a : Int} (hb0 : 0 ≤ b) (hb1 : b < 4) (ha0 : 0 ≤ a) (ha1 : a < 2048) : Go.bits .or .i64 (b * 2048) a = b * 2048 + a :=
  bits_join .i64 16 (by decide) (fun n h0 h1 => by rw [IntKind.wrap_i64]; omega) 11 (b * 2048) a (by omega) (by omega) (by omega) ha0 (by omega) (by omega)
def chg (kind minute : Int) : Int × Int := if kind < 0 ∨ kind > 3 then (0, 2) else if minute < 0 ∨ minute > 1439 then (0, 4) else (kind * 2048 + minute, 0)
theorem change_j0 (kind minute : Int) (b : Bool) (hb : b = true ↔ kind < 0 ∨ kind > 3) : Ev (fun k => disc_Change.j0 k kind minute b) (chg kind minute) := by
  refine ev_succ ?_
  simp only [disc_Change.j0, chg]
  by_cases h : b = true
  · simp only [if_pos h, if_pos (hb.1 h)]
    exact Ev.now _
  · have h2 : ¬ (kind < 0 ∨ kind > 3) := fun h3 => h (hb.2 h3)
    simp only [if_neg h, if_neg h2]
    by_cases h3 : minute < 0
    · simp only [if_pos h3, if_pos (show minute < 0 ∨ minute > 1439 from .inl h3)]
      exact Ev.now _
    · by_cases h4 : minute ≥ 1440
      · simp only [if_neg h3, if_pos h4, if_pos (show minute < 0 ∨ minute > 1439 by omega)]
        exact Ev.now _
      · simp only [if_neg h3, if_neg h4, if_neg (show ¬ (minute < 0 ∨ minute > 1439) by omega), w64 (x := kind * 2048) (by omega) (by omega), or11 (b := kind) (a := minute) (by omega) (by omega) (by omega) (by omega)]
        exact Ev.now _
theorem change_f (kind minute : Int) : Ev (fun k => disc_Change.f k kind minute) (chg kind minute) := by
  unfold disc_Change.f
  by_cases h : kind < 0
  · simp only [if_pos h]
    exact change_j0 _ _ _ (by simp [h])
  · simp only [if_neg h]
    exact change_j0 _ _ _ (by simp; omega)
def tld (n : Int) : Int × Int × Int := if n < 0 ∨ n ≥ 8192 ∨ n % 2048 ≥ 1440 then (0, 0, 7) else (n / 2048, n % 2048, 0)
theorem told_f (n : Int) : disc_Told.f n = some (tld n) := by
  unfold disc_Told.f tld
  rw [and2047]
  split
  · rw [if_pos (by omega)]
  · split
    · rw [if_pos (by omega)]
    · split
      · rw [if_pos (by omega)]
      · rw [if_neg (by omega)]
theorem dalive_f : Ev (fun k => haulierlaw11_alive.f k) true := by
  unfold haulierlaw11_alive.f
  refine Ev.bind (change_f 3 5) ?_
  exact Ev.now _

theorem rtold_f (n : Int) (h : n ≤ 9223372036854775807) : haulierref11_Told.f n = some (tld n) := by
  unfold haulierref11_Told.f tld
  split
  · rw [if_pos (by omega)]
  · rw [tmod_nn (by omega), tdiv_nn (by omega), w64 (by omega) (by omega)]
    split
    · rw [if_pos (by omega)]
    · split
      · rw [if_pos (by omega)]
      · rw [if_neg (by omega)]

theorem dc_j2 (x0 x1 h : Int) (y z w : Int) (b : Bool) (h0 : IR x0) (h1 : IR x1) (hb : b = true ↔ x0 < 0 ∨ x0 > 3) (hh : h = if x1 < 0 ∨ x1 > 1439 then 4 else 0) :
    Ev (fun k => haulierlaw11_DiscChanges.j2 k x0 x1 (chg x0 x1).1 (chg x0 x1).2 y z w y z w 0 h b) true := by
  refine ev_succ ?_
  simp only [haulierlaw11_DiscChanges.j2]
  unfold IR at h0 h1
  by_cases hbt : b = true
  · have h2 := hb.1 hbt
    simp only [if_pos hbt, if_neg (show ¬ ((2 : Int) = 0) by omega), chg, if_pos h2, if_true]
    exact Ev.bind dalive_f (Ev.now _)
  · have h2 : ¬ (x0 < 0 ∨ x0 > 3) := fun h3 => hbt (hb.2 h3)
    simp only [if_neg hbt, chg, if_neg h2]
    by_cases h3 : x1 < 0 ∨ x1 > 1439
    · rw [if_pos h3] at hh
      subst hh
      simp only [if_pos h3, if_neg (show ¬ ((4 : Int) = 0) by omega), if_true]
      exact Ev.bind dalive_f (Ev.now _)
    · rw [if_neg h3] at hh
      subst hh
      simp only [if_neg h3, if_true, w64 (x := 2048 * x0) (by omega) (by omega), w64 (x := 2048 * x0 + x1) (by omega) (by omega), if_pos (show x0 * 2048 + x1 = 2048 * x0 + x1 by omega)]
      exact Ev.bind dalive_f (Ev.now _)
theorem dc_j1 (x0 x1 h : Int) (y z w : Int) (h0 : IR x0) (h1 : IR x1) (hh : h = if x1 < 0 ∨ x1 > 1439 then 4 else 0) :
    Ev (fun k => haulierlaw11_DiscChanges.j1 k x0 x1 (chg x0 x1).1 (chg x0 x1).2 y z w y z w 0 h) true := by
  refine ev_succ ?_
  simp only [haulierlaw11_DiscChanges.j1]
  by_cases h2 : x0 < 0
  · simp only [if_pos h2]
    exact dc_j2 _ _ _ _ _ _ _ h0 h1 (by simp [h2]) hh
  · simp only [if_neg h2]
    exact dc_j2 _ _ _ _ _ _ _ h0 h1 (by simp; omega) hh
theorem dc_j0 (x0 x1 : Int) (y z w : Int) (h0 : IR x0) (h1 : IR x1) (b : Bool) (hb : b = true ↔ x1 < 0 ∨ x1 > 1439) :
    Ev (fun k => haulierlaw11_DiscChanges.j0 k x0 x1 (chg x0 x1).1 (chg x0 x1).2 y z w y z w 0 0 b) true := by
  refine ev_succ ?_
  simp only [haulierlaw11_DiscChanges.j0]
  by_cases h2 : b = true
  · simp only [if_pos h2]
    exact dc_j1 _ _ _ _ _ _ h0 h1 (by rw [if_pos (hb.1 h2)])
  · simp only [if_neg h2]
    exact dc_j1 _ _ _ _ _ _ h0 h1 (by rw [if_neg (fun h3 => h2 (hb.2 h3))])
theorem DiscChanges : haulierlaw11_DiscChanges.Pure := by
  intro a b n ha hb hn
  refine Ev.rounds ?_
  unfold haulierlaw11_DiscChanges.f
  refine Ev.bind (change_f a b) ?_
  have hn := ir_of hn
  simp only [told_f, rtold_f n hn.2, Option.bind_some]
  by_cases h : b < 0
  · simp only [if_pos h]
    exact dc_j0 _ _ _ _ _ (ir_of ha) (ir_of hb) _ (by simp [h])
  · simp only [if_neg h]
    exact dc_j0 _ _ _ _ _ (ir_of ha) (ir_of hb) _ (by simp; omega)


end Go.Proofs.Ytjpnfhnmcgejhaa.Pure
