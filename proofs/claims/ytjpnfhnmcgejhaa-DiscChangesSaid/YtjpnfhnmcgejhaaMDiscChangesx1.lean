/- Written by a program of this session: Go functions that the law DiscChanges reaches, as Lean functions, each with a proof that the Go code comes to just what it says; every input of the kinds that a contract names. -/
import Derived.Test.YtjpnfhnmcgejhaaMDiscChangesx0
namespace Go.Proofs.Ytjpnfhnmcgejhaa.MDiscChanges
open Go.RowKit Go.Proofs.YtjpnfhnmcgejhaaW.PrintWords Go.Proofs.YtjpnfhnmcgejhaaW.PrintLast Go.Proofs.YtjpnfhnmcgejhaaW.PrintMore
attribute [local go_sem] max2_int min2_int max_two min_two max_three min_three max_four min_four   -- for this text's walks alone
set_option linter.unusedVariables false
set_option linter.unusedSimpArgs false
set_option linter.unnecessarySimpa false

/-! ### disc_Change: function 6 -/
def disc_Change.j0 : Nat → Int → Int → Bool → Option (Int × Int)
  | 0, _, _, _ => none
  | k + 1, x0, x1, x6 => if x6 = true then (some (0, 2)) else (if x1 < 0 then (some (0, 4)) else (if x1 ≥ 1440 then (some (0, 4)) else (some (Go.bits .or .i64 (wrap64 (x0 * 2048)) x1, 0))))
def disc_Change.f (k : Nat) (a0 : Int) (a1 : Int) : Option (Int × Int) := if a0 < 0 then (disc_Change.j0 k a0 a1 true) else (disc_Change.j0 k a0 a1 (decide (a0 ≥ 4)))
theorem disc_Change.mono_l : ∀ k, (∀ y0 y1 y2, LeO (disc_Change.j0 k y0 y1 y2) (disc_Change.j0 (k + 1) y0 y1 y2))
  | 0 => fun _ _ _ r h => by simp [disc_Change.j0] at h
  | k + 1 => by
    have ih0 := disc_Change.mono_l k
    · intro y0 y1 y2
      unfold disc_Change.j0
      repeat' first
      | (with_reducible exact ih0 _ _ _)
      | (with_reducible exact LeO.refl _)
      | (with_reducible exact LeO.none _)
      | (with_reducible refine LeO.ite ?_ ?_)
      | (with_reducible refine LeO.bind ?_ (fun _ => ?_))
      | exact ih0 _ _ _
      | exact LeO.none _
      | refine LeO.ite ?_ ?_
      | refine LeO.bind ?_ (fun _ => ?_)
theorem disc_Change.mono : ∀ a0 a1 k, LeO (disc_Change.f k a0 a1) (disc_Change.f (k + 1) a0 a1) := by
  intro a0 a1 k
  have ih0 := disc_Change.mono_l k
  unfold disc_Change.f
  repeat' first
      | (with_reducible exact ih0 _ _ _)
      | (with_reducible exact LeO.refl _)
      | (with_reducible exact LeO.none _)
      | (with_reducible refine LeO.ite ?_ ?_)
      | (with_reducible refine LeO.bind ?_ (fun _ => ?_))
      | exact ih0 _ _ _
      | exact LeO.none _
      | refine LeO.ite ?_ ?_
      | refine LeO.bind ?_ (fun _ => ?_)
set_option maxHeartbeats 8000000 in
set_option maxRecDepth 100000 in
theorem disc_Change.calls (k : Nat) (a0 : Int) (a1 : Int) (r1 : Int) (r2 : Int) (w : World) (h : disc_Change.f k a0 a1 = some (r1, r2)) :
    Calls Try.prog 6 #[.int .i64 a0, .int .i64 a1] w fun e w' => e = .returned (.tuple #[.int .i64 r1, .int .i64 r2]) ∧ Drawn0 w w' := by
  have H : (if a0 < 0 then (disc_Change.j0 k a0 a1 true) else (disc_Change.j0 k a0 a1 (decide (a0 ≥ 4)))) = some (r1, r2) := h
  clear h
  have HC3 := Aside0.mk H
  clear H
  go_enter Try.func6, Try.ntmps6
  go_upto_region 1 with (fail)
  go_cut [6] (fun v6 wc => ∃ (kq : Nat) (x6_2 : Bool), v6 = .bool x6_2 ∧ Aside0 (disc_Change.j0 kq a0 a1 x6_2 = some (r1, r2)) ∧ Aside0 (kq ≤ k) ∧ Drawn0 w wc)
  case first =>
    have H := HC3.out
    clear HC3
    by_cases c4 : a0 < 0
    · rw [if_pos c4] at H
      have c4b0 : decide (a0 < 0) = true := decide_eq_true c4
      clear c4
      (first | rw [c4b0] | (simp only [i64_w, i32_w]; rw [c4b0]) | skip)
      have H' := Aside0.mk H
      clear H
      go_wp2
      go_meet
      case rel => exact ⟨_, (true), (by first | rfl | (simp; done) | (simp [*]; done)), H', ⟨by first | omega | exact Nat.le_refl _⟩, by repeat (first | exact Drawn0.refl _ | apply Drawn0.step)⟩
    · rw [if_neg c4] at H
      have c4b0 : decide (a0 < 0) = false := decide_eq_false c4
      clear c4
      (first | rw [c4b0] | (simp only [i64_w, i32_w]; rw [c4b0]) | skip)
      have H' := Aside0.mk H
      clear H
      go_wp2
      go_meet
      case rel => exact ⟨_, (decide (a0 ≥ 4)), (by first | rfl | (simp; done) | (simp [*]; done)), H', ⟨by first | omega | exact Nat.le_refl _⟩, by repeat (first | exact Drawn0.refl _ | apply Drawn0.step)⟩
  case rest =>
    clear HC3
    try clear p2
    try clear c4
    try clear c4b0
    obtain ⟨kq, x6_2, rfl, HA, HJ2, ⟨mc2, rfl⟩⟩ := hcut
    cases kq with
    | zero => exact absurd HA.out (by simp [disc_Change.j0])
    | succ kj2 =>
      have H := HA.out
      clear HA
      simp only [disc_Change.j0] at H
      by_cases c5 : x6_2 = true
      · subst c5
        have H1 : (some (0, 2)) = some (r1, r2) := by rw [if_pos rfl] at H; exact H
        clear H
        have H := H1
        clear H1
        simp only [Option.some.injEq, Prod.mk.injEq] at H
        obtain ⟨rfl, rfl⟩ := H
        go_wp2
        go_ret2
        exact ⟨by first | rfl | (simp; done) | (simp [*]; done), by repeat (first | exact Drawn0.refl _ | apply Drawn0.step)⟩
      · replace c5 := Bool.eq_false_iff.mpr c5
        subst c5
        have H1 : (if a1 < 0 then (some (0, 4)) else (if a1 ≥ 1440 then (some (0, 4)) else (some (Go.bits .or .i64 (wrap64 (a0 * 2048)) a1, 0)))) = some (r1, r2) := by rw [if_neg (show ¬ (false = true) by decide)] at H; exact H
        clear H
        have H := H1
        clear H1
        by_cases c6 : a1 < 0
        · rw [if_pos c6] at H
          have c6b0 : decide (a1 < 0) = true := decide_eq_true c6
          clear c6
          simp only [Option.some.injEq, Prod.mk.injEq] at H
          obtain ⟨rfl, rfl⟩ := H
          go_wp2
          go_ret2
          exact ⟨by first | rfl | (simp; done) | (simp [*]; done), by repeat (first | exact Drawn0.refl _ | apply Drawn0.step)⟩
        · rw [if_neg c6] at H
          have c6b0 : decide (a1 < 0) = false := decide_eq_false c6
          clear c6
          by_cases c7 : a1 ≥ 1440
          · rw [if_pos c7] at H
            have c7b0 : decide (1440 ≤ a1) = true := decide_eq_true c7
            clear c7
            simp only [Option.some.injEq, Prod.mk.injEq] at H
            obtain ⟨rfl, rfl⟩ := H
            go_wp2
            go_ret2
            exact ⟨by first | rfl | (simp; done) | (simp [*]; done), by repeat (first | exact Drawn0.refl _ | apply Drawn0.step)⟩
          · rw [if_neg c7] at H
            have c7b0 : decide (1440 ≤ a1) = false := decide_eq_false c7
            clear c7
            simp only [Option.some.injEq, Prod.mk.injEq] at H
            obtain ⟨rfl, rfl⟩ := H
            go_wp2
            go_ret2
            exact ⟨by first | rfl | (simp; done) | (simp [*]; done), by repeat (first | exact Drawn0.refl _ | apply Drawn0.step)⟩

/-! ### disc_Told: function 7 -/
def disc_Told.f (a0 : Int) : Option (Int × Int × Int) := if a0 < 0 then (some (0, 0, 7)) else (if (a0 / 2048) ≥ 4 then (some (0, 0, 7)) else (if (Go.bits .and .i64 a0 2047) ≥ 1440 then (some (0, 0, 7)) else (some (a0 / 2048, Go.bits .and .i64 a0 2047, 0))))
set_option maxHeartbeats 8000000 in
set_option maxRecDepth 100000 in
theorem disc_Told.calls (a0 : Int) (r1 : Int) (r2 : Int) (r3 : Int) (w : World) (h : disc_Told.f a0 = some (r1, r2, r3)) :
    Calls Try.prog 7 #[.int .i64 a0] w fun e w' => e = .returned (.tuple #[.int .i64 r1, .int .i64 r2, .int .i64 r3]) ∧ Drawn0 w w' := by
  have H : (if a0 < 0 then (some (0, 0, 7)) else (if (a0 / 2048) ≥ 4 then (some (0, 0, 7)) else (if (Go.bits .and .i64 a0 2047) ≥ 1440 then (some (0, 0, 7)) else (some (a0 / 2048, Go.bits .and .i64 a0 2047, 0))))) = some (r1, r2, r3) := h
  clear h
  by_cases c2 : a0 < 0
  · rw [if_pos c2] at H
    have c2b0 : decide (a0 < 0) = true := decide_eq_true c2
    clear c2
    simp only [Option.some.injEq, Prod.mk.injEq] at H
    obtain ⟨rfl, rfl, rfl⟩ := H
    go_enter Try.func7, Try.ntmps7
    go_wp2
    go_ret3
    exact ⟨by first | rfl | (simp; done) | (simp [*]; done), by repeat (first | exact Drawn0.refl _ | apply Drawn0.step)⟩
  · rw [if_neg c2] at H
    have c2b0 : decide (a0 < 0) = false := decide_eq_false c2
    clear c2
    by_cases c3 : (a0 / 2048) ≥ 4
    · rw [if_pos c3] at H
      have c3b0 : decide (4 ≤ (a0 / 2048)) = true := decide_eq_true c3
      clear c3
      simp only [Option.some.injEq, Prod.mk.injEq] at H
      obtain ⟨rfl, rfl, rfl⟩ := H
      go_enter Try.func7, Try.ntmps7
      go_wp2
      go_ret3
      exact ⟨by first | rfl | (simp; done) | (simp [*]; done), by repeat (first | exact Drawn0.refl _ | apply Drawn0.step)⟩
    · rw [if_neg c3] at H
      have c3b0 : decide (4 ≤ (a0 / 2048)) = false := decide_eq_false c3
      clear c3
      by_cases c4 : (Go.bits .and .i64 a0 2047) ≥ 1440
      · rw [if_pos c4] at H
        have c4b0 : decide (1440 ≤ (Go.bits .and .i64 a0 2047)) = true := decide_eq_true c4
        clear c4
        simp only [Option.some.injEq, Prod.mk.injEq] at H
        obtain ⟨rfl, rfl, rfl⟩ := H
        go_enter Try.func7, Try.ntmps7
        go_wp2
        go_ret3
        exact ⟨by first | rfl | (simp; done) | (simp [*]; done), by repeat (first | exact Drawn0.refl _ | apply Drawn0.step)⟩
      · rw [if_neg c4] at H
        have c4b0 : decide (1440 ≤ (Go.bits .and .i64 a0 2047)) = false := decide_eq_false c4
        clear c4
        simp only [Option.some.injEq, Prod.mk.injEq] at H
        obtain ⟨rfl, rfl, rfl⟩ := H
        go_enter Try.func7, Try.ntmps7
        go_wp2
        go_ret3
        exact ⟨by first | rfl | (simp; done) | (simp [*]; done), by repeat (first | exact Drawn0.refl _ | apply Drawn0.step)⟩

/-! ### haulierref11_Told: function 8 -/
def haulierref11_Told.f (a0 : Int) : Option (Int × Int × Int) := if a0 < 0 then (some (0, 0, 7)) else (if a0 ≥ 8192 then (some (0, 0, 7)) else (if (Int.tmod a0 2048) ≥ 1440 then (some (0, 0, 7)) else (some (wrap64 (Int.tdiv a0 2048), Int.tmod a0 2048, 0))))
set_option maxHeartbeats 8000000 in
set_option maxRecDepth 100000 in
theorem haulierref11_Told.calls (a0 : Int) (r1 : Int) (r2 : Int) (r3 : Int) (w : World) (h : haulierref11_Told.f a0 = some (r1, r2, r3)) :
    Calls Try.prog 8 #[.int .i64 a0] w fun e w' => e = .returned (.tuple #[.int .i64 r1, .int .i64 r2, .int .i64 r3]) ∧ Drawn0 w w' := by
  have H : (if a0 < 0 then (some (0, 0, 7)) else (if a0 ≥ 8192 then (some (0, 0, 7)) else (if (Int.tmod a0 2048) ≥ 1440 then (some (0, 0, 7)) else (some (wrap64 (Int.tdiv a0 2048), Int.tmod a0 2048, 0))))) = some (r1, r2, r3) := h
  clear h
  by_cases c2 : a0 < 0
  · rw [if_pos c2] at H
    have c2b0 : decide (a0 < 0) = true := decide_eq_true c2
    clear c2
    simp only [Option.some.injEq, Prod.mk.injEq] at H
    obtain ⟨rfl, rfl, rfl⟩ := H
    go_enter Try.func8, Try.ntmps8
    go_wp2
    go_ret3
    exact ⟨by first | rfl | (simp; done) | (simp [*]; done), by repeat (first | exact Drawn0.refl _ | apply Drawn0.step)⟩
  · rw [if_neg c2] at H
    have c2b0 : decide (a0 < 0) = false := decide_eq_false c2
    clear c2
    by_cases c3 : a0 ≥ 8192
    · rw [if_pos c3] at H
      have c3b0 : decide (8192 ≤ a0) = true := decide_eq_true c3
      clear c3
      simp only [Option.some.injEq, Prod.mk.injEq] at H
      obtain ⟨rfl, rfl, rfl⟩ := H
      go_enter Try.func8, Try.ntmps8
      go_wp2
      go_ret3
      exact ⟨by first | rfl | (simp; done) | (simp [*]; done), by repeat (first | exact Drawn0.refl _ | apply Drawn0.step)⟩
    · rw [if_neg c3] at H
      have c3b0 : decide (8192 ≤ a0) = false := decide_eq_false c3
      clear c3
      by_cases c4 : (Int.tmod a0 2048) ≥ 1440
      · rw [if_pos c4] at H
        have c4b0 : decide (1440 ≤ (Int.tmod a0 2048)) = true := decide_eq_true c4
        clear c4
        simp only [Option.some.injEq, Prod.mk.injEq] at H
        obtain ⟨rfl, rfl, rfl⟩ := H
        go_enter Try.func8, Try.ntmps8
        go_wp2
        go_ret3
        exact ⟨by first | rfl | (simp; done) | (simp [*]; done), by repeat (first | exact Drawn0.refl _ | apply Drawn0.step)⟩
      · rw [if_neg c4] at H
        have c4b0 : decide (1440 ≤ (Int.tmod a0 2048)) = false := decide_eq_false c4
        clear c4
        simp only [Option.some.injEq, Prod.mk.injEq] at H
        obtain ⟨rfl, rfl, rfl⟩ := H
        go_enter Try.func8, Try.ntmps8
        go_wp2
        go_ret3
        exact ⟨by first | rfl | (simp; done) | (simp [*]; done), by repeat (first | exact Drawn0.refl _ | apply Drawn0.step)⟩

/-! ### haulierlaw11_alive: function 9 -/
def haulierlaw11_alive.f (k : Nat)  : Option (Bool) := (disc_Change.f k 3 5).bind fun bt101 => (if bt101.1 = 6149 then (some (bt101.2 == 0)) else (some false))
theorem haulierlaw11_alive.mono : ∀ k, LeO (haulierlaw11_alive.f k ) (haulierlaw11_alive.f (k + 1) ) := by
  intro  k
  unfold haulierlaw11_alive.f
  repeat' first
      | (with_reducible exact disc_Change.mono _ _ _)
      | (with_reducible exact LeO.refl _)
      | (with_reducible exact LeO.none _)
      | (with_reducible refine LeO.ite ?_ ?_)
      | (with_reducible refine LeO.bind ?_ (fun _ => ?_))
      | exact disc_Change.mono _ _ _
      | exact LeO.none _
      | refine LeO.ite ?_ ?_
      | refine LeO.bind ?_ (fun _ => ?_)
set_option maxHeartbeats 8000000 in
set_option maxRecDepth 100000 in
theorem haulierlaw11_alive.calls (k : Nat)  (r : Bool) (w : World) (h : haulierlaw11_alive.f k  = some r) :
    Calls Try.prog 9 #[] w fun e w' => e = .returned (.bool r) ∧ Drawn0 w w' := by
  have H : ((disc_Change.f k 3 5).bind fun bt101 => (if bt101.1 = 6149 then (some (bt101.2 == 0)) else (some false))) = some r := h
  clear h
  replace H := Option.bind_eq_some_iff.mp H
  obtain ⟨⟨t101, t102⟩, A10, H⟩ := H
  replace H : (if t101 = 6149 then (some (t102 == 0)) else (some false)) = some r := H
  have A1 := Aside0.mk A10
  clear A10
  by_cases c2 : t101 = 6149
  · rw [if_pos c2] at H
    have c2b0 : (t101 == 6149) = true := beq_iff_eq.mpr c2
    have c2b1 : (t101 != 6149) = false := bne_eq_false_iff_eq.mpr c2
    clear c2
    obtain rfl := Option.some.inj H
    go_enter Try.func9, Try.ntmps9
    go_wp2_with (first | ((with_reducible refine gate_callee (f := 6) rfl ?_); refine goesL_ (some 4) rfl rfl Try.func6 (by kernel_rfl) rfl #[.int .i64 3, .int .i64 5] rfl (by (try simp only [List.map_toArray, List.map_cons, List.map_nil]); first | done | rfl | (simp only [List.length_drop, List.length_take]; rfl)) ?_; (with_reducible refine (disc_Change.calls k 3 5 t101 t102 _ A1.out).mono ?_); rintro e w' ⟨rfl, ⟨nd, rfl⟩⟩; refine ⟨_, rfl, ?_⟩))
    go_ret
    exact ⟨by first | rfl | (simp; done) | (simp [*]; done), by repeat (first | exact Drawn0.refl _ | apply Drawn0.step)⟩
  · rw [if_neg c2] at H
    have c2b0 : (t101 == 6149) = false := beq_eq_false_iff_ne.mpr c2
    have c2b1 : (t101 != 6149) = true := bne_iff_ne.mpr c2
    obtain rfl := Option.some.inj H
    go_enter Try.func9, Try.ntmps9
    go_wp2_with (first | ((with_reducible refine gate_callee (f := 6) rfl ?_); refine goesL_ (some 4) rfl rfl Try.func6 (by kernel_rfl) rfl #[.int .i64 3, .int .i64 5] rfl (by (try simp only [List.map_toArray, List.map_cons, List.map_nil]); first | done | rfl | (simp only [List.length_drop, List.length_take]; rfl)) ?_; (with_reducible refine (disc_Change.calls k 3 5 t101 t102 _ A1.out).mono ?_); rintro e w' ⟨rfl, ⟨nd, rfl⟩⟩; refine ⟨_, rfl, ?_⟩))
    go_ret
    exact ⟨by first | rfl | (simp; done) | (simp [*]; done), by repeat (first | exact Drawn0.refl _ | apply Drawn0.step)⟩

/-! ### haulierlaw11_DiscChanges: function 3 -/
mutual
def haulierlaw11_DiscChanges.j0 : Nat → Int → Int → Int → Int → Int → Int → Int → Int → Int → Int → Int → Int → Bool → Option (Bool)
  | 0, _, _, _, _, _, _, _, _, _, _, _, _, _ => none
  | k + 1, x0, x1, x7, x8, x9, x10, x11, x12, x13, x14, x15, x16, x40 => if x40 = true then (haulierlaw11_DiscChanges.j1 k x0 x1 x7 x8 x9 x10 x11 x12 x13 x14 x15 4) else (haulierlaw11_DiscChanges.j1 k x0 x1 x7 x8 x9 x10 x11 x12 x13 x14 x15 x16)
def haulierlaw11_DiscChanges.j1 : Nat → Int → Int → Int → Int → Int → Int → Int → Int → Int → Int → Int → Int → Option (Bool)
  | 0, _, _, _, _, _, _, _, _, _, _, _, _ => none
  | k + 1, x0, x1, x7, x8, x9, x10, x11, x12, x13, x14, x15, x16 => if x0 < 0 then (haulierlaw11_DiscChanges.j2 k x0 x1 x7 x8 x9 x10 x11 x12 x13 x14 x15 x16 true) else (haulierlaw11_DiscChanges.j2 k x0 x1 x7 x8 x9 x10 x11 x12 x13 x14 x15 x16 (decide (x0 > 3)))
def haulierlaw11_DiscChanges.j2 : Nat → Int → Int → Int → Int → Int → Int → Int → Int → Int → Int → Int → Int → Bool → Option (Bool)
  | 0, _, _, _, _, _, _, _, _, _, _, _, _, _ => none
  | k + 1, x0, x1, x7, x8, x9, x10, x11, x12, x13, x14, x15, x16, x46 => if x46 = true then (if x7 = x15 then (if x8 = 2 then (if x9 = x12 then (if x10 = x13 then (if x11 = x14 then ((haulierlaw11_alive.f k).bind fun t111 => (some t111)) else (some false)) else (some false)) else (some false)) else (some false)) else (some false)) else (if x16 = 0 then (if x7 = (wrap64 ((wrap64 (2048 * x0)) + x1)) then (if x8 = x16 then (if x9 = x12 then (if x10 = x13 then (if x11 = x14 then ((haulierlaw11_alive.f k).bind fun t112 => (some t112)) else (some false)) else (some false)) else (some false)) else (some false)) else (some false)) else (if x7 = x15 then (if x8 = x16 then (if x9 = x12 then (if x10 = x13 then (if x11 = x14 then ((haulierlaw11_alive.f k).bind fun t113 => (some t113)) else (some false)) else (some false)) else (some false)) else (some false)) else (some false)))
end
def haulierlaw11_DiscChanges.f (k : Nat) (a0 : Int) (a1 : Int) (a2 : Int) : Option (Bool) := (disc_Change.f k a0 a1).bind fun bt103 => ((disc_Told.f a2).bind fun bt105 => ((haulierref11_Told.f a2).bind fun bt108 => (if a1 < 0 then (haulierlaw11_DiscChanges.j0 k a0 a1 bt103.1 bt103.2 bt105.1 bt105.2.1 bt105.2.2 bt108.1 bt108.2.1 bt108.2.2 0 0 true) else (haulierlaw11_DiscChanges.j0 k a0 a1 bt103.1 bt103.2 bt105.1 bt105.2.1 bt105.2.2 bt108.1 bt108.2.1 bt108.2.2 0 0 (decide (a1 > 1439))))))
theorem haulierlaw11_DiscChanges.mono_l : ∀ k, (∀ y0 y1 y2 y3 y4 y5 y6 y7 y8 y9 y10 y11 y12, LeO (haulierlaw11_DiscChanges.j0 k y0 y1 y2 y3 y4 y5 y6 y7 y8 y9 y10 y11 y12) (haulierlaw11_DiscChanges.j0 (k + 1) y0 y1 y2 y3 y4 y5 y6 y7 y8 y9 y10 y11 y12)) ∧ (∀ y0 y1 y2 y3 y4 y5 y6 y7 y8 y9 y10 y11, LeO (haulierlaw11_DiscChanges.j1 k y0 y1 y2 y3 y4 y5 y6 y7 y8 y9 y10 y11) (haulierlaw11_DiscChanges.j1 (k + 1) y0 y1 y2 y3 y4 y5 y6 y7 y8 y9 y10 y11)) ∧ (∀ y0 y1 y2 y3 y4 y5 y6 y7 y8 y9 y10 y11 y12, LeO (haulierlaw11_DiscChanges.j2 k y0 y1 y2 y3 y4 y5 y6 y7 y8 y9 y10 y11 y12) (haulierlaw11_DiscChanges.j2 (k + 1) y0 y1 y2 y3 y4 y5 y6 y7 y8 y9 y10 y11 y12))
  | 0 => ⟨fun _ _ _ _ _ _ _ _ _ _ _ _ _ r h => by simp [haulierlaw11_DiscChanges.j0] at h, fun _ _ _ _ _ _ _ _ _ _ _ _ r h => by simp [haulierlaw11_DiscChanges.j1] at h, fun _ _ _ _ _ _ _ _ _ _ _ _ _ r h => by simp [haulierlaw11_DiscChanges.j2] at h⟩
  | k + 1 => by
    obtain ⟨ih0, ih1, ih2⟩ := haulierlaw11_DiscChanges.mono_l k
    refine ⟨?_, ?_, ?_⟩
    · intro y0 y1 y2 y3 y4 y5 y6 y7 y8 y9 y10 y11 y12
      unfold haulierlaw11_DiscChanges.j0
      repeat' first
      | (with_reducible exact ih0 _ _ _ _ _ _ _ _ _ _ _ _ _)
      | (with_reducible exact ih1 _ _ _ _ _ _ _ _ _ _ _ _)
      | (with_reducible exact ih2 _ _ _ _ _ _ _ _ _ _ _ _ _)
      | (with_reducible exact disc_Change.mono _ _ _)
      | (with_reducible exact haulierlaw11_alive.mono _)
      | (with_reducible exact LeO.refl _)
      | (with_reducible exact LeO.none _)
      | (with_reducible refine LeO.ite ?_ ?_)
      | (with_reducible refine LeO.bind ?_ (fun _ => ?_))
      | exact ih0 _ _ _ _ _ _ _ _ _ _ _ _ _
      | exact ih1 _ _ _ _ _ _ _ _ _ _ _ _
      | exact ih2 _ _ _ _ _ _ _ _ _ _ _ _ _
      | exact disc_Change.mono _ _ _
      | exact haulierlaw11_alive.mono _
      | exact LeO.none _
      | refine LeO.ite ?_ ?_
      | refine LeO.bind ?_ (fun _ => ?_)
    · intro y0 y1 y2 y3 y4 y5 y6 y7 y8 y9 y10 y11
      unfold haulierlaw11_DiscChanges.j1
      repeat' first
      | (with_reducible exact ih0 _ _ _ _ _ _ _ _ _ _ _ _ _)
      | (with_reducible exact ih1 _ _ _ _ _ _ _ _ _ _ _ _)
      | (with_reducible exact ih2 _ _ _ _ _ _ _ _ _ _ _ _ _)
      | (with_reducible exact disc_Change.mono _ _ _)
      | (with_reducible exact haulierlaw11_alive.mono _)
      | (with_reducible exact LeO.refl _)
      | (with_reducible exact LeO.none _)
      | (with_reducible refine LeO.ite ?_ ?_)
      | (with_reducible refine LeO.bind ?_ (fun _ => ?_))
      | exact ih0 _ _ _ _ _ _ _ _ _ _ _ _ _
      | exact ih1 _ _ _ _ _ _ _ _ _ _ _ _
      | exact ih2 _ _ _ _ _ _ _ _ _ _ _ _ _
      | exact disc_Change.mono _ _ _
      | exact haulierlaw11_alive.mono _
      | exact LeO.none _
      | refine LeO.ite ?_ ?_
      | refine LeO.bind ?_ (fun _ => ?_)
    · intro y0 y1 y2 y3 y4 y5 y6 y7 y8 y9 y10 y11 y12
      unfold haulierlaw11_DiscChanges.j2
      repeat' first
      | (with_reducible exact ih0 _ _ _ _ _ _ _ _ _ _ _ _ _)
      | (with_reducible exact ih1 _ _ _ _ _ _ _ _ _ _ _ _)
      | (with_reducible exact ih2 _ _ _ _ _ _ _ _ _ _ _ _ _)
      | (with_reducible exact disc_Change.mono _ _ _)
      | (with_reducible exact haulierlaw11_alive.mono _)
      | (with_reducible exact LeO.refl _)
      | (with_reducible exact LeO.none _)
      | (with_reducible refine LeO.ite ?_ ?_)
      | (with_reducible refine LeO.bind ?_ (fun _ => ?_))
      | exact ih0 _ _ _ _ _ _ _ _ _ _ _ _ _
      | exact ih1 _ _ _ _ _ _ _ _ _ _ _ _
      | exact ih2 _ _ _ _ _ _ _ _ _ _ _ _ _
      | exact disc_Change.mono _ _ _
      | exact haulierlaw11_alive.mono _
      | exact LeO.none _
      | refine LeO.ite ?_ ?_
      | refine LeO.bind ?_ (fun _ => ?_)
theorem haulierlaw11_DiscChanges.mono : ∀ a0 a1 a2 k, LeO (haulierlaw11_DiscChanges.f k a0 a1 a2) (haulierlaw11_DiscChanges.f (k + 1) a0 a1 a2) := by
  intro a0 a1 a2 k
  obtain ⟨ih0, ih1, ih2⟩ := haulierlaw11_DiscChanges.mono_l k
  unfold haulierlaw11_DiscChanges.f
  repeat' first
      | (with_reducible exact ih0 _ _ _ _ _ _ _ _ _ _ _ _ _)
      | (with_reducible exact ih1 _ _ _ _ _ _ _ _ _ _ _ _)
      | (with_reducible exact ih2 _ _ _ _ _ _ _ _ _ _ _ _ _)
      | (with_reducible exact disc_Change.mono _ _ _)
      | (with_reducible exact haulierlaw11_alive.mono _)
      | (with_reducible exact LeO.refl _)
      | (with_reducible exact LeO.none _)
      | (with_reducible refine LeO.ite ?_ ?_)
      | (with_reducible refine LeO.bind ?_ (fun _ => ?_))
      | exact ih0 _ _ _ _ _ _ _ _ _ _ _ _ _
      | exact ih1 _ _ _ _ _ _ _ _ _ _ _ _
      | exact ih2 _ _ _ _ _ _ _ _ _ _ _ _ _
      | exact disc_Change.mono _ _ _
      | exact haulierlaw11_alive.mono _
      | exact LeO.none _
      | refine LeO.ite ?_ ?_
      | refine LeO.bind ?_ (fun _ => ?_)
set_option maxHeartbeats 8000000 in
set_option maxRecDepth 100000 in
theorem haulierlaw11_DiscChanges.calls (k : Nat) (a0 : Int) (a1 : Int) (a2 : Int) (r : Bool) (w : World) (h : haulierlaw11_DiscChanges.f k a0 a1 a2 = some r) :
    Calls Try.prog 3 #[.int .i64 a0, .int .i64 a1, .int .i64 a2] w fun e w' => e = .returned (.bool r) ∧ Drawn0 w w' := by
  have H : ((disc_Change.f k a0 a1).bind fun bt103 => ((disc_Told.f a2).bind fun bt105 => ((haulierref11_Told.f a2).bind fun bt108 => (if a1 < 0 then (haulierlaw11_DiscChanges.j0 k a0 a1 bt103.1 bt103.2 bt105.1 bt105.2.1 bt105.2.2 bt108.1 bt108.2.1 bt108.2.2 0 0 true) else (haulierlaw11_DiscChanges.j0 k a0 a1 bt103.1 bt103.2 bt105.1 bt105.2.1 bt105.2.2 bt108.1 bt108.2.1 bt108.2.2 0 0 (decide (a1 > 1439))))))) = some r := h
  clear h
  replace H := Option.bind_eq_some_iff.mp H
  obtain ⟨⟨t103, t104⟩, A40, H⟩ := H
  replace H : ((disc_Told.f a2).bind fun bt105 => ((haulierref11_Told.f a2).bind fun bt108 => (if a1 < 0 then (haulierlaw11_DiscChanges.j0 k a0 a1 t103 t104 bt105.1 bt105.2.1 bt105.2.2 bt108.1 bt108.2.1 bt108.2.2 0 0 true) else (haulierlaw11_DiscChanges.j0 k a0 a1 t103 t104 bt105.1 bt105.2.1 bt105.2.2 bt108.1 bt108.2.1 bt108.2.2 0 0 (decide (a1 > 1439)))))) = some r := H
  have A4 := Aside0.mk A40
  clear A40
  replace H := Option.bind_eq_some_iff.mp H
  obtain ⟨⟨t105, t106, t107⟩, A50, H⟩ := H
  replace H : ((haulierref11_Told.f a2).bind fun bt108 => (if a1 < 0 then (haulierlaw11_DiscChanges.j0 k a0 a1 t103 t104 t105 t106 t107 bt108.1 bt108.2.1 bt108.2.2 0 0 true) else (haulierlaw11_DiscChanges.j0 k a0 a1 t103 t104 t105 t106 t107 bt108.1 bt108.2.1 bt108.2.2 0 0 (decide (a1 > 1439))))) = some r := H
  have A5 := Aside0.mk A50
  clear A50
  replace H := Option.bind_eq_some_iff.mp H
  obtain ⟨⟨t108, t109, t110⟩, A60, H⟩ := H
  replace H : (if a1 < 0 then (haulierlaw11_DiscChanges.j0 k a0 a1 t103 t104 t105 t106 t107 t108 t109 t110 0 0 true) else (haulierlaw11_DiscChanges.j0 k a0 a1 t103 t104 t105 t106 t107 t108 t109 t110 0 0 (decide (a1 > 1439)))) = some r := H
  have A6 := Aside0.mk A60
  clear A60
  have HC7 := Aside0.mk H
  clear H
  go_enter Try.func3, Try.ntmps3
  go_upto_region 5 with (first | ((with_reducible refine gate_callee (f := 6) rfl ?_); refine goesL_ (some 20) rfl rfl Try.func6 (by kernel_rfl) rfl #[.int .i64 a0, .int .i64 a1] rfl (by (try simp only [List.map_toArray, List.map_cons, List.map_nil]); first | done | rfl | (simp only [List.length_drop, List.length_take]; rfl)) ?_; (with_reducible refine (disc_Change.calls k a0 a1 t103 t104 _ A4.out).mono ?_); rintro e w' ⟨rfl, ⟨nd, rfl⟩⟩; refine ⟨_, rfl, ?_⟩) | ((with_reducible refine gate_callee (f := 7) rfl ?_); refine goesL_ (some 25) rfl rfl Try.func7 (by kernel_rfl) rfl #[.int .i64 a2] rfl (by (try simp only [List.map_toArray, List.map_cons, List.map_nil]); first | done | rfl | (simp only [List.length_drop, List.length_take]; rfl)) ?_; (with_reducible refine (disc_Told.calls a2 t105 t106 t107 _ A5.out).mono ?_); rintro e w' ⟨rfl, ⟨nd, rfl⟩⟩; refine ⟨_, rfl, ?_⟩) | ((with_reducible refine gate_callee (f := 8) rfl ?_); refine goesL_ (some 31) rfl rfl Try.func8 (by kernel_rfl) rfl #[.int .i64 a2] rfl (by (try simp only [List.map_toArray, List.map_cons, List.map_nil]); first | done | rfl | (simp only [List.length_drop, List.length_take]; rfl)) ?_; (with_reducible refine (haulierref11_Told.calls a2 t108 t109 t110 _ A6.out).mono ?_); rintro e w' ⟨rfl, ⟨nd, rfl⟩⟩; refine ⟨_, rfl, ?_⟩))
  (try simp only [Act.put, List.setIfInBounds_toArray, List.set_cons_zero, List.set_cons_succ])
  go_cut [40] (fun v40 wc => ∃ (kq : Nat) (x40_6 : Bool), v40 = .bool x40_6 ∧ Aside0 (haulierlaw11_DiscChanges.j0 kq a0 a1 t103 t104 t105 t106 t107 t108 t109 t110 0 0 x40_6 = some r) ∧ Aside0 (kq ≤ k) ∧ Drawn0 w wc)
  case first =>
    have H := HC7.out
    clear HC7
    by_cases c8 : a1 < 0
    · rw [if_pos c8] at H
      have c8b0 : decide (a1 < 0) = true := decide_eq_true c8
      clear c8
      (first | rw [c8b0] | (simp only [i64_w, i32_w]; rw [c8b0]) | skip)
      have H' := Aside0.mk H
      clear H
      go_wp2
      go_meet
      case rel => exact ⟨_, (true), (by first | rfl | (simp; done) | (simp [*]; done)), H', ⟨by first | omega | exact Nat.le_refl _⟩, by repeat (first | exact Drawn0.refl _ | apply Drawn0.step)⟩
    · rw [if_neg c8] at H
      have c8b0 : decide (a1 < 0) = false := decide_eq_false c8
      clear c8
      (first | rw [c8b0] | (simp only [i64_w, i32_w]; rw [c8b0]) | skip)
      have H' := Aside0.mk H
      clear H
      go_wp2
      go_meet
      case rel => exact ⟨_, (decide (a1 > 1439)), (by first | rfl | (simp; done) | (simp [*]; done)), H', ⟨by first | omega | exact Nat.le_refl _⟩, by repeat (first | exact Drawn0.refl _ | apply Drawn0.step)⟩
  case rest =>
    clear HC7
    try clear p2
    try clear c3
    try clear c6
    try clear c7
    try clear c8
    try clear c8b0
    obtain ⟨kq, x40_6, rfl, HA, HJ6, ⟨mc6, rfl⟩⟩ := hcut
    cases kq with
    | zero => exact absurd HA.out (by simp [haulierlaw11_DiscChanges.j0])
    | succ kj6 =>
      have H := HA.out
      clear HA
      simp only [haulierlaw11_DiscChanges.j0] at H
      have HC9 := Aside0.mk H
      clear H
      go_upto_if 40 with (fail)
      go_cut [16] (fun v16 wc => ∃ (kq : Nat) (x16_8 : Int), v16 = .int .i64 x16_8 ∧ Aside0 (haulierlaw11_DiscChanges.j1 kq a0 a1 t103 t104 t105 t106 t107 t108 t109 t110 0 x16_8 = some r) ∧ Aside0 (kq ≤ kj6) ∧ Drawn0 w wc)
      case first =>
        have H := HC9.out
        clear HC9
        by_cases c10 : x40_6 = true
        · subst c10
          have H1 : (haulierlaw11_DiscChanges.j1 kj6 a0 a1 t103 t104 t105 t106 t107 t108 t109 t110 0 4) = some r := by rw [if_pos rfl] at H; exact H
          clear H
          have H := H1
          clear H1
          have H' := Aside0.mk H
          clear H
          go_wp2
          go_meet
          case rel => exact ⟨_, (4), (by first | rfl | (simp; done) | (simp [*]; done)), H', ⟨by have := HJ6.out; first | omega | exact Nat.le_refl _⟩, by repeat (first | exact Drawn0.refl _ | apply Drawn0.step)⟩
        · replace c10 := Bool.eq_false_iff.mpr c10
          subst c10
          have H1 : (haulierlaw11_DiscChanges.j1 kj6 a0 a1 t103 t104 t105 t106 t107 t108 t109 t110 0 0) = some r := by rw [if_neg (show ¬ (false = true) by decide)] at H; exact H
          clear H
          have H := H1
          clear H1
          have H' := Aside0.mk H
          clear H
          go_wp2
          go_meet
          case rel => exact ⟨_, (0), (by first | rfl | (simp; done) | (simp [*]; done)), H', ⟨by have := HJ6.out; first | omega | exact Nat.le_refl _⟩, by repeat (first | exact Drawn0.refl _ | apply Drawn0.step)⟩
      case rest =>
        clear HC9
        try clear c1
        try clear p2
        try clear c3
        try clear c6
        try clear c7
        try clear c8
        try clear c8b0
        try clear c10
        try clear p2
        obtain ⟨kq, x16_8, rfl, HA, HJ8, ⟨mc8, rfl⟩⟩ := hcut
        cases kq with
        | zero => exact absurd HA.out (by simp [haulierlaw11_DiscChanges.j1])
        | succ kj8 =>
          have H := HA.out
          clear HA
          simp only [haulierlaw11_DiscChanges.j1] at H
          have HC11 := Aside0.mk H
          clear H
          go_upto_region 7 with (fail)
          go_cut [46] (fun v46 wc => ∃ (kq : Nat) (x46_10 : Bool), v46 = .bool x46_10 ∧ Aside0 (haulierlaw11_DiscChanges.j2 kq a0 a1 t103 t104 t105 t106 t107 t108 t109 t110 0 x16_8 x46_10 = some r) ∧ Aside0 (kq ≤ kj8) ∧ Drawn0 w wc)
          case first =>
            have H := HC11.out
            clear HC11
            by_cases c12 : a0 < 0
            · rw [if_pos c12] at H
              have c12b0 : decide (a0 < 0) = true := decide_eq_true c12
              clear c12
              (first | rw [c12b0] | (simp only [i64_w, i32_w]; rw [c12b0]) | skip)
              have H' := Aside0.mk H
              clear H
              go_wp2
              go_meet
              case rel => exact ⟨_, (true), (by first | rfl | (simp; done) | (simp [*]; done)), H', ⟨by have := HJ6.out; have := HJ8.out; first | omega | exact Nat.le_refl _⟩, by repeat (first | exact Drawn0.refl _ | apply Drawn0.step)⟩
            · rw [if_neg c12] at H
              have c12b0 : decide (a0 < 0) = false := decide_eq_false c12
              clear c12
              (first | rw [c12b0] | (simp only [i64_w, i32_w]; rw [c12b0]) | skip)
              have H' := Aside0.mk H
              clear H
              go_wp2
              go_meet
              case rel => exact ⟨_, (decide (a0 > 3)), (by first | rfl | (simp; done) | (simp [*]; done)), H', ⟨by have := HJ6.out; have := HJ8.out; first | omega | exact Nat.le_refl _⟩, by repeat (first | exact Drawn0.refl _ | apply Drawn0.step)⟩
          case rest =>
            clear HC11
            try clear c1
            try clear p2
            try clear c3
            try clear c6
            try clear c7
            try clear c8
            try clear c8b0
            try clear c10
            try clear c12
            try clear c12b0
            try clear p2
            obtain ⟨kq, x46_10, rfl, HA, HJ10, ⟨mc10, rfl⟩⟩ := hcut
            cases kq with
            | zero => exact absurd HA.out (by simp [haulierlaw11_DiscChanges.j2])
            | succ kj10 =>
              have H := HA.out
              clear HA
              simp only [haulierlaw11_DiscChanges.j2] at H
              by_cases c13 : x46_10 = true
              · subst c13
                have H1 : (if t103 = 0 then (if t104 = 2 then (if t105 = t108 then (if t106 = t109 then (if t107 = t110 then ((haulierlaw11_alive.f kj10).bind fun t111 => (some t111)) else (some false)) else (some false)) else (some false)) else (some false)) else (some false)) = some r := by rw [if_pos rfl] at H; exact H
                clear H
                have H := H1
                clear H1
                by_cases c14 : t103 = 0
                · rw [if_pos c14] at H
                  have c14b0 : (t103 == 0) = true := beq_iff_eq.mpr c14
                  have c14b1 : (t103 != 0) = false := bne_eq_false_iff_eq.mpr c14
                  clear c14
                  by_cases c15 : t104 = 2
                  · rw [if_pos c15] at H
                    have c15b0 : (t104 == 2) = true := beq_iff_eq.mpr c15
                    have c15b1 : (t104 != 2) = false := bne_eq_false_iff_eq.mpr c15
                    clear c15
                    by_cases c16 : t105 = t108
                    · rw [if_pos c16] at H
                      have c16b0 : (t105 == t108) = true := beq_iff_eq.mpr c16
                      have c16b1 : (t105 != t108) = false := bne_eq_false_iff_eq.mpr c16
                      clear c16
                      by_cases c17 : t106 = t109
                      · rw [if_pos c17] at H
                        have c17b0 : (t106 == t109) = true := beq_iff_eq.mpr c17
                        have c17b1 : (t106 != t109) = false := bne_eq_false_iff_eq.mpr c17
                        clear c17
                        by_cases c18 : t107 = t110
                        · rw [if_pos c18] at H
                          have c18b0 : (t107 == t110) = true := beq_iff_eq.mpr c18
                          have c18b1 : (t107 != t110) = false := bne_eq_false_iff_eq.mpr c18
                          clear c18
                          replace H := Option.bind_eq_some_iff.mp H
                          obtain ⟨t111, A190, H⟩ := H
                          replace H : (some t111) = some r := H
                          have A19 := Aside0.mk A190
                          clear A190
                          obtain rfl := Option.some.inj H
                          go_wp2_with (first | (go_at_call 9; (with_reducible refine (haulierlaw11_alive.calls kj10  t111 _ A19.out).mono ?_); rintro e w' ⟨rfl, ⟨nd, rfl⟩⟩))
                          go_ret
                          exact ⟨by first | rfl | (simp; done) | (simp [*]; done), by repeat (first | exact Drawn0.refl _ | apply Drawn0.step)⟩
                        · rw [if_neg c18] at H
                          have c18b0 : (t107 == t110) = false := beq_eq_false_iff_ne.mpr c18
                          have c18b1 : (t107 != t110) = true := bne_iff_ne.mpr c18
                          obtain rfl := Option.some.inj H
                          go_wp2
                          go_ret
                          exact ⟨by first | rfl | (simp; done) | (simp [*]; done), by repeat (first | exact Drawn0.refl _ | apply Drawn0.step)⟩
                      · rw [if_neg c17] at H
                        have c17b0 : (t106 == t109) = false := beq_eq_false_iff_ne.mpr c17
                        have c17b1 : (t106 != t109) = true := bne_iff_ne.mpr c17
                        obtain rfl := Option.some.inj H
                        go_wp2
                        go_ret
                        exact ⟨by first | rfl | (simp; done) | (simp [*]; done), by repeat (first | exact Drawn0.refl _ | apply Drawn0.step)⟩
                    · rw [if_neg c16] at H
                      have c16b0 : (t105 == t108) = false := beq_eq_false_iff_ne.mpr c16
                      have c16b1 : (t105 != t108) = true := bne_iff_ne.mpr c16
                      obtain rfl := Option.some.inj H
                      go_wp2
                      go_ret
                      exact ⟨by first | rfl | (simp; done) | (simp [*]; done), by repeat (first | exact Drawn0.refl _ | apply Drawn0.step)⟩
                  · rw [if_neg c15] at H
                    have c15b0 : (t104 == 2) = false := beq_eq_false_iff_ne.mpr c15
                    have c15b1 : (t104 != 2) = true := bne_iff_ne.mpr c15
                    obtain rfl := Option.some.inj H
                    go_wp2
                    go_ret
                    exact ⟨by first | rfl | (simp; done) | (simp [*]; done), by repeat (first | exact Drawn0.refl _ | apply Drawn0.step)⟩
                · rw [if_neg c14] at H
                  have c14b0 : (t103 == 0) = false := beq_eq_false_iff_ne.mpr c14
                  have c14b1 : (t103 != 0) = true := bne_iff_ne.mpr c14
                  obtain rfl := Option.some.inj H
                  go_wp2
                  go_ret
                  exact ⟨by first | rfl | (simp; done) | (simp [*]; done), by repeat (first | exact Drawn0.refl _ | apply Drawn0.step)⟩
              · replace c13 := Bool.eq_false_iff.mpr c13
                subst c13
                have H1 : (if x16_8 = 0 then (if t103 = (wrap64 ((wrap64 (2048 * a0)) + a1)) then (if t104 = x16_8 then (if t105 = t108 then (if t106 = t109 then (if t107 = t110 then ((haulierlaw11_alive.f kj10).bind fun t112 => (some t112)) else (some false)) else (some false)) else (some false)) else (some false)) else (some false)) else (if t103 = 0 then (if t104 = x16_8 then (if t105 = t108 then (if t106 = t109 then (if t107 = t110 then ((haulierlaw11_alive.f kj10).bind fun t113 => (some t113)) else (some false)) else (some false)) else (some false)) else (some false)) else (some false))) = some r := by rw [if_neg (show ¬ (false = true) by decide)] at H; exact H
                clear H
                have H := H1
                clear H1
                by_cases c20 : x16_8 = 0
                · rw [if_pos c20] at H
                  have c20b0 : (x16_8 == 0) = true := beq_iff_eq.mpr c20
                  have c20b1 : (x16_8 != 0) = false := bne_eq_false_iff_eq.mpr c20
                  clear c20
                  by_cases c21 : t103 = (wrap64 ((wrap64 (2048 * a0)) + a1))
                  · rw [if_pos c21] at H
                    have c21b0 : (t103 == (wrap64 ((wrap64 (2048 * a0)) + a1))) = true := beq_iff_eq.mpr c21
                    have c21b1 : (t103 != (wrap64 ((wrap64 (2048 * a0)) + a1))) = false := bne_eq_false_iff_eq.mpr c21
                    clear c21
                    by_cases c22 : t104 = x16_8
                    · rw [if_pos c22] at H
                      have c22b0 : (t104 == x16_8) = true := beq_iff_eq.mpr c22
                      have c22b1 : (t104 != x16_8) = false := bne_eq_false_iff_eq.mpr c22
                      clear c22
                      by_cases c23 : t105 = t108
                      · rw [if_pos c23] at H
                        have c23b0 : (t105 == t108) = true := beq_iff_eq.mpr c23
                        have c23b1 : (t105 != t108) = false := bne_eq_false_iff_eq.mpr c23
                        clear c23
                        by_cases c24 : t106 = t109
                        · rw [if_pos c24] at H
                          have c24b0 : (t106 == t109) = true := beq_iff_eq.mpr c24
                          have c24b1 : (t106 != t109) = false := bne_eq_false_iff_eq.mpr c24
                          clear c24
                          by_cases c25 : t107 = t110
                          · rw [if_pos c25] at H
                            have c25b0 : (t107 == t110) = true := beq_iff_eq.mpr c25
                            have c25b1 : (t107 != t110) = false := bne_eq_false_iff_eq.mpr c25
                            clear c25
                            replace H := Option.bind_eq_some_iff.mp H
                            obtain ⟨t112, A260, H⟩ := H
                            replace H : (some t112) = some r := H
                            have A26 := Aside0.mk A260
                            clear A260
                            obtain rfl := Option.some.inj H
                            go_wp2_with (first | (go_at_call 9; (with_reducible refine (haulierlaw11_alive.calls kj10  t112 _ A26.out).mono ?_); rintro e w' ⟨rfl, ⟨nd, rfl⟩⟩))
                            go_ret
                            exact ⟨by first | rfl | (simp; done) | (simp [*]; done), by repeat (first | exact Drawn0.refl _ | apply Drawn0.step)⟩
                          · rw [if_neg c25] at H
                            have c25b0 : (t107 == t110) = false := beq_eq_false_iff_ne.mpr c25
                            have c25b1 : (t107 != t110) = true := bne_iff_ne.mpr c25
                            obtain rfl := Option.some.inj H
                            go_wp2
                            go_ret
                            exact ⟨by first | rfl | (simp; done) | (simp [*]; done), by repeat (first | exact Drawn0.refl _ | apply Drawn0.step)⟩
                        · rw [if_neg c24] at H
                          have c24b0 : (t106 == t109) = false := beq_eq_false_iff_ne.mpr c24
                          have c24b1 : (t106 != t109) = true := bne_iff_ne.mpr c24
                          obtain rfl := Option.some.inj H
                          go_wp2
                          go_ret
                          exact ⟨by first | rfl | (simp; done) | (simp [*]; done), by repeat (first | exact Drawn0.refl _ | apply Drawn0.step)⟩
                      · rw [if_neg c23] at H
                        have c23b0 : (t105 == t108) = false := beq_eq_false_iff_ne.mpr c23
                        have c23b1 : (t105 != t108) = true := bne_iff_ne.mpr c23
                        obtain rfl := Option.some.inj H
                        go_wp2
                        go_ret
                        exact ⟨by first | rfl | (simp; done) | (simp [*]; done), by repeat (first | exact Drawn0.refl _ | apply Drawn0.step)⟩
                    · rw [if_neg c22] at H
                      have c22b0 : (t104 == x16_8) = false := beq_eq_false_iff_ne.mpr c22
                      have c22b1 : (t104 != x16_8) = true := bne_iff_ne.mpr c22
                      obtain rfl := Option.some.inj H
                      go_wp2
                      go_ret
                      exact ⟨by first | rfl | (simp; done) | (simp [*]; done), by repeat (first | exact Drawn0.refl _ | apply Drawn0.step)⟩
                  · rw [if_neg c21] at H
                    have c21b0 : (t103 == (wrap64 ((wrap64 (2048 * a0)) + a1))) = false := beq_eq_false_iff_ne.mpr c21
                    have c21b1 : (t103 != (wrap64 ((wrap64 (2048 * a0)) + a1))) = true := bne_iff_ne.mpr c21
                    obtain rfl := Option.some.inj H
                    go_wp2
                    go_ret
                    exact ⟨by first | rfl | (simp; done) | (simp [*]; done), by repeat (first | exact Drawn0.refl _ | apply Drawn0.step)⟩
                · rw [if_neg c20] at H
                  have c20b0 : (x16_8 == 0) = false := beq_eq_false_iff_ne.mpr c20
                  have c20b1 : (x16_8 != 0) = true := bne_iff_ne.mpr c20
                  by_cases c27 : t103 = 0
                  · rw [if_pos c27] at H
                    have c27b0 : (t103 == 0) = true := beq_iff_eq.mpr c27
                    have c27b1 : (t103 != 0) = false := bne_eq_false_iff_eq.mpr c27
                    clear c27
                    by_cases c28 : t104 = x16_8
                    · rw [if_pos c28] at H
                      have c28b0 : (t104 == x16_8) = true := beq_iff_eq.mpr c28
                      have c28b1 : (t104 != x16_8) = false := bne_eq_false_iff_eq.mpr c28
                      clear c28
                      by_cases c29 : t105 = t108
                      · rw [if_pos c29] at H
                        have c29b0 : (t105 == t108) = true := beq_iff_eq.mpr c29
                        have c29b1 : (t105 != t108) = false := bne_eq_false_iff_eq.mpr c29
                        clear c29
                        by_cases c30 : t106 = t109
                        · rw [if_pos c30] at H
                          have c30b0 : (t106 == t109) = true := beq_iff_eq.mpr c30
                          have c30b1 : (t106 != t109) = false := bne_eq_false_iff_eq.mpr c30
                          clear c30
                          by_cases c31 : t107 = t110
                          · rw [if_pos c31] at H
                            have c31b0 : (t107 == t110) = true := beq_iff_eq.mpr c31
                            have c31b1 : (t107 != t110) = false := bne_eq_false_iff_eq.mpr c31
                            clear c31
                            replace H := Option.bind_eq_some_iff.mp H
                            obtain ⟨t113, A320, H⟩ := H
                            replace H : (some t113) = some r := H
                            have A32 := Aside0.mk A320
                            clear A320
                            obtain rfl := Option.some.inj H
                            go_wp2_with (first | (go_at_call 9; (with_reducible refine (haulierlaw11_alive.calls kj10  t113 _ A32.out).mono ?_); rintro e w' ⟨rfl, ⟨nd, rfl⟩⟩))
                            go_ret
                            exact ⟨by first | rfl | (simp; done) | (simp [*]; done), by repeat (first | exact Drawn0.refl _ | apply Drawn0.step)⟩
                          · rw [if_neg c31] at H
                            have c31b0 : (t107 == t110) = false := beq_eq_false_iff_ne.mpr c31
                            have c31b1 : (t107 != t110) = true := bne_iff_ne.mpr c31
                            obtain rfl := Option.some.inj H
                            go_wp2
                            go_ret
                            exact ⟨by first | rfl | (simp; done) | (simp [*]; done), by repeat (first | exact Drawn0.refl _ | apply Drawn0.step)⟩
                        · rw [if_neg c30] at H
                          have c30b0 : (t106 == t109) = false := beq_eq_false_iff_ne.mpr c30
                          have c30b1 : (t106 != t109) = true := bne_iff_ne.mpr c30
                          obtain rfl := Option.some.inj H
                          go_wp2
                          go_ret
                          exact ⟨by first | rfl | (simp; done) | (simp [*]; done), by repeat (first | exact Drawn0.refl _ | apply Drawn0.step)⟩
                      · rw [if_neg c29] at H
                        have c29b0 : (t105 == t108) = false := beq_eq_false_iff_ne.mpr c29
                        have c29b1 : (t105 != t108) = true := bne_iff_ne.mpr c29
                        obtain rfl := Option.some.inj H
                        go_wp2
                        go_ret
                        exact ⟨by first | rfl | (simp; done) | (simp [*]; done), by repeat (first | exact Drawn0.refl _ | apply Drawn0.step)⟩
                    · rw [if_neg c28] at H
                      have c28b0 : (t104 == x16_8) = false := beq_eq_false_iff_ne.mpr c28
                      have c28b1 : (t104 != x16_8) = true := bne_iff_ne.mpr c28
                      obtain rfl := Option.some.inj H
                      go_wp2
                      go_ret
                      exact ⟨by first | rfl | (simp; done) | (simp [*]; done), by repeat (first | exact Drawn0.refl _ | apply Drawn0.step)⟩
                  · rw [if_neg c27] at H
                    have c27b0 : (t103 == 0) = false := beq_eq_false_iff_ne.mpr c27
                    have c27b1 : (t103 != 0) = true := bne_iff_ne.mpr c27
                    obtain rfl := Option.some.inj H
                    go_wp2
                    go_ret
                    exact ⟨by first | rfl | (simp; done) | (simp [*]; done), by repeat (first | exact Drawn0.refl _ | apply Drawn0.step)⟩

/-- THE ONE PURE STATEMENT of haulierlaw11_DiscChanges. -/
def haulierlaw11_DiscChanges.Pure : Prop := ∀ (a0 : Int) (a1 : Int) (a2 : Int), (Lit.int .i64 a0).wf = true → (Lit.int .i64 a1).wf = true → (Lit.int .i64 a2).wf = true → ∃ k, haulierlaw11_DiscChanges.f k a0 a1 a2 = some true

end Go.Proofs.Ytjpnfhnmcgejhaa.MDiscChanges
