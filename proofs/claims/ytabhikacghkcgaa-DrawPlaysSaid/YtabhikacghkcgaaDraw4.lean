/- What the reference's Next and Pick answer of draws that came in: for every row and all numbers (at most 1,000,000 to pick from); what is left is read where it came in. -/
import Derived.Test.YtabhikacghkcgaaDraw3
namespace Go.Proofs.Ytabhikacghkcgaa.Draw4
open Go.RowKit Go.Proofs.YtabhikacghkcgaaW.PrintWords Go.Proofs.YtabhikacghkcgaaW.PrintLast Go.Proofs.YtabhikacghkcgaaW.PrintMore Go.Proofs.Ytabhikacghkcgaa.Ints Go.Proofs.Ytabhikacghkcgaa.Draw1 Go.Proofs.Ytabhikacghkcgaa.Draw2
attribute [local go_sem] max2_int min2_int max_two min_two max_three min_three max_four min_four
set_option linter.unusedVariables false
set_option linter.unusedSimpArgs false
def md (x n : Int) : Int := if Int.tmod x n < 0 then wrap64 (Int.tmod x n + n) else Int.tmod x n
theorem mod_ (x n : Int) (r : Int) (hr : md x n = r) (hn : 1 ≤ n) (w : World) : Calls Try.prog 17 #[.int .i64 x, .int .i64 n] w fun e w' => e = .returned (.int .i64 r) ∧ w' = w := by
  have hn0 : (n = 0) = False := eq_false (by omega)
  obtain ⟨m, hm⟩ : ∃ m, Int.tmod x n = m := ⟨_, rfl⟩
  unfold md at hr
  rw [hm] at hr
  by_cases h : m < 0
  · rw [if_pos h] at hr
    replace h := eq_true h
    subst hr
    clear hn
    go_enter Try.func17, Try.ntmps17
    go_wp2
    go_ret
    exact ⟨rfl, rfl⟩
  · rw [if_neg h] at hr
    replace h := eq_false h
    subst hr
    clear hn
    go_enter Try.func17, Try.ntmps17
    go_wp2
    go_ret
    exact ⟨rfl, rfl⟩
theorem md_range (x n : Int) (hn : 1 ≤ n) (hm : n ≤ 1000000000) : 0 ≤ md x n ∧ md x n < n := by
  have h1 := Int.tmod_lt_of_pos x (b := n) (by omega)
  have h2 : -n < Int.tmod x n := by
    have := Int.tmod_lt_of_pos (-x) (b := n) (by omega)
    rw [Int.neg_tmod] at this
    omega
  unfold md wrap64
  split <;> omega
def rnS (l : List Int) (n : Int) : Int × Bool × List Int := if n < 1 then (0, false, l) else if l.length = 0 then (0, false, l) else (md (rd l 0) n, true, l.drop 1)
set_option maxHeartbeats 8000000 in
set_option maxRecDepth 100000 in
theorem rnext_no (W0 : World) (A : Option Addr) (c : Nat) (l : List Int) (n : Int) (w : World) (hb0 : Below W0.heap.size W0 w) (hC : CI W0 A l) (hc : l.length ≤ c) (h : n < 1 ∨ (¬ n < 1 ∧ l.length = 0)) : Calls Try.prog 12 #[.slice A l.length c, .int .i64 n] w fun e w' => ∃ A2 c2, e = .returned (.tuple #[.int .i64 0, .bool false, .slice A2 l.length c2]) ∧ CI W0 A2 l ∧ l.length ≤ c2 ∧ Below w.heap.size w w' := by
  have HC := Aside0.mk hC
  have HL := Aside0.mk hc
  clear hC hb0 hc
  rcases h with h1 | ⟨h1, h2⟩
  · replace h1 := eq_true h1
    go_enter Try.func12, Try.ntmps12
    go_wp2
    first | go_ret | go_ret2 | go_ret3
    exact ⟨_, _, rfl, HC.out, HL.out, Below.refl _ _⟩
  · replace h1 := eq_false h1
    obtain ⟨m, hm⟩ : ∃ m, m = l.length := ⟨_, rfl⟩
    have HM := Aside0.mk hm
    rw [← hm]
    have h3 : ((m : Int) = 0) = True := eq_true (by omega)
    have h4 : ((m : Int) == 0) = true := beq_iff_eq.mpr (by omega)
    clear h2 hm
    go_enter Try.func12, Try.ntmps12
    go_wp2
    first | go_ret | go_ret2 | go_ret3
    exact ⟨_, _, rfl, HC.out, by first | exact HL.out | (rw [HM.out]; exact HL.out), Below.refl _ _⟩
set_option maxHeartbeats 8000000 in
set_option maxRecDepth 100000 in
theorem rnext_yes (W0 : World) (A : Option Addr) (c : Nat) (l : List Int) (n : Int) (w : World) (hb0 : Below W0.heap.size W0 w) (hC : CI W0 A l) (hc : l.length ≤ c) (h1 : ¬ n < 1) (h2 : ¬ l.length = 0) : Calls Try.prog 12 #[.slice A l.length c, .int .i64 n] w fun e w' => ∃ A2 c2, e = .returned (.tuple #[.int .i64 (md (rd l 0) n), .bool true, .slice A2 (l.drop 1).length c2]) ∧ CI W0 A2 (l.drop 1) ∧ (l.drop 1).length ≤ c2 ∧ Below w.heap.size w w' := by
  obtain ⟨ad, rfl, hcl⟩ := Kd.at_int hC 0 (by omega) (by omega)
  have hcl1 : w.cell? ad = some (.int .i64 (rd l 0)) := by
    have h := pw_cell_below hb0 hcl
    simpa [Addr.add] using h
  have HC := Aside0.mk (CI_drop hC (m := 1) (by omega) hc)
  have HL := Aside0.mk (show l.length - 1 ≤ c - 1 by omega)
  have HLD := Aside0.mk (show l.length - 1 = (l.drop 1).length by rw [List.length_drop])
  have hn1 : 1 ≤ n := by omega
  obtain ⟨r, hr⟩ : ∃ r, md (rd l 0) n = r := ⟨_, rfl⟩
  rw [hr]
  have HM := Aside0.mk (fun w => mod_ (rd l 0) n r hr hn1 w)
  have hs : ∀ w, (Instr.slice 22 (.slice (some ad) l.length c) (some (.int .i64 1)) none none).run Try.prog w = .ok (.slice (dropA (some ad) c 1) (l.length - 1) (c - 1)) w := fun w => slD w (some ad) l.length c 1 (by omega)
  have p1 : ((0 : Int) < (l.length : Int)) = True := eq_true (by omega)
  have q1 : (0 < l.length) = True := eq_true (by omega)
  have p2 : ((l.length : Int) = 0) = False := eq_false (by omega)
  have p3 : ((l.length : Int) == 0) = false := beq_eq_false_iff_ne.mpr (by omega)
  obtain ⟨x, hx⟩ : ∃ x, x = rd l 0 := ⟨_, rfl⟩
  rw [← hx] at hcl1 HM
  replace h1 := eq_false h1
  clear hb0 hC hc hcl hr hn1 hx h2
  go_enter Try.func12, Try.ntmps12
  go_wp2
  go_quiet ((go_at_call 17; exact Calls.quiet_of_same (HM.out _)))
  go_wp2
  first | go_ret | go_ret2 | go_ret3
  exact ⟨dropA (some ad) c 1, c - 1, by (rw [← HLD.out]; rfl), by rw [HLD.out] at HC; exact HC.out, by rw [← HLD.out]; exact HL.out, pw_below_drewN (Below.refl _ _) _⟩
theorem rnext_ (W0 : World) (A : Option Addr) (c : Nat) (l : List Int) (n : Int) (w : World) (hb0 : Below W0.heap.size W0 w) (hC : CI W0 A l) (hc : l.length ≤ c) (r : Int × Bool × List Int) (hr : rnS l n = r) : Calls Try.prog 12 #[.slice A l.length c, .int .i64 n] w fun e w' => ∃ A2 c2, e = .returned (.tuple #[.int .i64 r.1, .bool r.2.1, .slice A2 r.2.2.length c2]) ∧ CI W0 A2 r.2.2 ∧ r.2.2.length ≤ c2 ∧ Below w.heap.size w w' := by
  subst hr
  unfold rnS
  by_cases h1 : n < 1
  · rw [if_pos h1]
    exact rnext_no W0 A c l n w hb0 hC hc (.inl h1)
  rw [if_neg h1]
  by_cases h2 : l.length = 0
  · rw [if_pos h2]
    exact rnext_no W0 A c l n w hb0 hC hc (.inr ⟨h1, h2⟩)
  rw [if_neg h2]
  exact rnext_yes W0 A c l n w hb0 hC hc h1 h2
end Go.Proofs.Ytabhikacghkcgaa.Draw4
