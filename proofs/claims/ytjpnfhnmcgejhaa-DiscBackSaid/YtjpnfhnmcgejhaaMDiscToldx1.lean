/- Written by a program of this session: Go functions that the law DiscTold reaches, as Lean functions, each with a proof that the Go code comes to just what it says; every input of the kinds that a contract names. -/
import Derived.Test.YtjpnfhnmcgejhaaMDiscToldx0
namespace Go.Proofs.Ytjpnfhnmcgejhaa.MDiscTold
open Go.RowKit Go.Proofs.YtjpnfhnmcgejhaaW.PrintWords Go.Proofs.YtjpnfhnmcgejhaaW.PrintLast Go.Proofs.YtjpnfhnmcgejhaaW.PrintMore
attribute [local go_sem] max2_int min2_int max_two min_two max_three min_three max_four min_four   -- for this text's walks alone
set_option linter.unusedVariables false
set_option linter.unusedSimpArgs false
set_option linter.unnecessarySimpa false

/-! ### disc_Told: function 7 -/
def disc_Told.f (a0 : Int) : Option (Int × Int × Int) := if a0 < 0 then (some (0, 0, 7)) else (if (a0 / 2048) ≥ 4 then (some (0, 0, 7)) else (if (Go.bits .and .i64 a0 2047) ≥ 1440 then (some (0, 0, 7)) else (some (a0 / 2048, Go.bits .and .i64 a0 2047, 0))))
set_option maxHeartbeats 8000000 in
set_option maxRecDepth 100000 in
theorem disc_Told.calls (a0 : Int) (r1 : Int) (r2 : Int) (r3 : Int) (w : World) (h : disc_Told.f a0 = some (r1, r2, r3)) :
    Calls Try.prog 7 #[.int .i64 a0] w fun e w' => e = .returned (.tuple #[.int .i64 r1, .int .i64 r2, .int .i64 r3]) ∧ Drawn0 w w' := by
  have H : (if a0 < 0 then (some (0, 0, 7)) else (if (a0 / 2048) ≥ 4 then (some (0, 0, 7)) else (if (Go.bits .and .i64 a0 2047) ≥ 1440 then (some (0, 0, 7)) else (some (a0 / 2048, Go.bits .and .i64 a0 2047, 0))))) = some (r1, r2, r3) := h
  clear h
  by_cases c2 : a0 < 0
  · rw [if_pos c2] at H
    have c2b0 : decide (a0 < 0) = true := decide_eq_true c2
    clear c2
    simp only [Option.some.injEq, Prod.mk.injEq] at H
    obtain ⟨rfl, rfl, rfl⟩ := H
    go_enter Try.func7, Try.ntmps7
    go_wp2
    go_ret3
    exact ⟨by first | rfl | (simp; done) | (simp [*]; done), by repeat (first | exact Drawn0.refl _ | apply Drawn0.step)⟩
  · rw [if_neg c2] at H
    have c2b0 : decide (a0 < 0) = false := decide_eq_false c2
    clear c2
    by_cases c3 : (a0 / 2048) ≥ 4
    · rw [if_pos c3] at H
      have c3b0 : decide (4 ≤ (a0 / 2048)) = true := decide_eq_true c3
      clear c3
      simp only [Option.some.injEq, Prod.mk.injEq] at H
      obtain ⟨rfl, rfl, rfl⟩ := H
      go_enter Try.func7, Try.ntmps7
      go_wp2
      go_ret3
      exact ⟨by first | rfl | (simp; done) | (simp [*]; done), by repeat (first | exact Drawn0.refl _ | apply Drawn0.step)⟩
    · rw [if_neg c3] at H
      have c3b0 : decide (4 ≤ (a0 / 2048)) = false := decide_eq_false c3
      clear c3
      by_cases c4 : (Go.bits .and .i64 a0 2047) ≥ 1440
      · rw [if_pos c4] at H
        have c4b0 : decide (1440 ≤ (Go.bits .and .i64 a0 2047)) = true := decide_eq_true c4
        clear c4
        simp only [Option.some.injEq, Prod.mk.injEq] at H
        obtain ⟨rfl, rfl, rfl⟩ := H
        go_enter Try.func7, Try.ntmps7
        go_wp2
        go_ret3
        exact ⟨by first | rfl | (simp; done) | (simp [*]; done), by repeat (first | exact Drawn0.refl _ | apply Drawn0.step)⟩
      · rw [if_neg c4] at H
        have c4b0 : decide (1440 ≤ (Go.bits .and .i64 a0 2047)) = false := decide_eq_false c4
        clear c4
        simp only [Option.some.injEq, Prod.mk.injEq] at H
        obtain ⟨rfl, rfl, rfl⟩ := H
        go_enter Try.func7, Try.ntmps7
        go_wp2
        go_ret3
        exact ⟨by first | rfl | (simp; done) | (simp [*]; done), by repeat (first | exact Drawn0.refl _ | apply Drawn0.step)⟩

end Go.Proofs.Ytjpnfhnmcgejhaa.MDiscTold
