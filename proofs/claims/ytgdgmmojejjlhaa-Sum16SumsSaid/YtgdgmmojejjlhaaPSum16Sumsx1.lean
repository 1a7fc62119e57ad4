-- PRINTED BY print.sh 35421559b90ae4d0a3588c463048766b98c2df88dd9212a6774a882060cdf62d: not written by this session
import Derived.Test.YtgdgmmojejjlhaaPSum16Sumsx0
namespace Go.Proofs.Ytgdgmmojejjlhaa.PSum16Sums
open Go.RowKit Go.Proofs.YtgdgmmojejjlhaaW.PrintWords Go.Proofs.YtgdgmmojejjlhaaW.PrintLast Go.Proofs.YtgdgmmojejjlhaaW.PrintMore
attribute [local go_sem] max2_int min2_int max_two min_two max_three min_three max_four min_four   -- for this text's walks alone
set_option linter.unusedVariables false
set_option linter.unusedSimpArgs false

/-! ### sum16_Add: function 10 -/
def sum16_Add.l0 : Nat → ByteArray → Int → Int → Int → Int → Option (Int)
  | 0, _, _, _, _, _ => none
  | k + 1, x1, x5, x6, x16, x17 => if x17 < x16 then (if 0 ≤ x17 then (if x17 < (x1.size : Int) then (sum16_Add.l0 k x1 (Int.tmod (wrap64 (x5 + (wrap64 (bt x1 x17)))) 255) (Int.tmod (wrap64 (x6 + (Int.tmod (wrap64 (x5 + (wrap64 (bt x1 x17)))) 255))) 255) x16 (wrap64 (x17 + 1))) else (none)) else (none)) else (some (Go.bits .or .i64 (wrap64 (x6 * 256)) x5))
def sum16_Add.f (k : Nat) (a0 : Int) (a1 : ByteArray) : Option (Int) := sum16_Add.l0 k a1 (Int.tmod (Go.bits .and .i64 a0 255) 255) (Int.tmod (Go.bits .and .i64 (a0 / 256) 255) 255) (a1.size : Int) 0
theorem sum16_Add.mono_l : ∀ k, (∀ y0 y1 y2 y3 y4, LeO (sum16_Add.l0 k y0 y1 y2 y3 y4) (sum16_Add.l0 (k + 1) y0 y1 y2 y3 y4))
  | 0 => fun _ _ _ _ _ r h => by simp [sum16_Add.l0] at h
  | k + 1 => by
    have ih0 := sum16_Add.mono_l k
    · intro y0 y1 y2 y3 y4
      unfold sum16_Add.l0
      repeat' first
      | (with_reducible exact ih0 _ _ _ _ _)
      | (with_reducible exact LeO.refl _)
      | (with_reducible exact LeO.none _)
      | (with_reducible refine LeO.ite ?_ ?_)
      | (with_reducible refine LeO.bind ?_ (fun _ => ?_))
      | exact ih0 _ _ _ _ _
      | exact LeO.none _
      | refine LeO.ite ?_ ?_
      | refine LeO.bind ?_ (fun _ => ?_)
theorem sum16_Add.mono : ∀ a0 a1 k, LeO (sum16_Add.f k a0 a1) (sum16_Add.f (k + 1) a0 a1) := by
  intro a0 a1 k
  have ih0 := sum16_Add.mono_l k
  unfold sum16_Add.f
  repeat' first
      | (with_reducible exact ih0 _ _ _ _ _)
      | (with_reducible exact LeO.refl _)
      | (with_reducible exact LeO.none _)
      | (with_reducible refine LeO.ite ?_ ?_)
      | (with_reducible refine LeO.bind ?_ (fun _ => ?_))
      | exact ih0 _ _ _ _ _
      | exact LeO.none _
      | refine LeO.ite ?_ ?_
      | refine LeO.bind ?_ (fun _ => ?_)
set_option maxHeartbeats 8000000 in
set_option maxRecDepth 100000 in
theorem sum16_Add.calls (k : Nat) (a0 : Int) (a1 : ByteArray) (r : Int) (w : World) (h : sum16_Add.f k a0 a1 = some r) :
    Calls Try.prog 10 #[.int .i64 a0, .string a1] w fun e w' => e = .returned (.int .i64 r) ∧ Drawn0 w w' := by
  have H : (sum16_Add.l0 k a1 (Int.tmod (Go.bits .and .i64 a0 255) 255) (Int.tmod (Go.bits .and .i64 (a0 / 256) 255) 255) (a1.size : Int) 0) = some r := h
  clear h
  have H' := Aside0.mk H
  clear H
  go_enter Try.func10, Try.ntmps10
  go_wp2
  go_loopg [5, 6, 17] k (fun kq v5 v6 v17 w' => ∃ (x5_1 : Int) (x6_1 : Int) (x17_1 : Int), v5 = .int .i64 x5_1 ∧ v6 = .int .i64 x6_1 ∧ v17 = .int .i64 x17_1 ∧ Aside0 (sum16_Add.l0 kq a1 x5_1 x6_1 (a1.size : Int) x17_1 = some r) ∧ Aside0 (kq ≤ k) ∧ Drawn0 w w')
  case atStart => exact ⟨(Int.tmod (Go.bits .and .i64 a0 255) 255), (Int.tmod (Go.bits .and .i64 (a0 / 256) 255) 255), (0), (by first | rfl | (simp; done) | (simp [*]; done)), (by first | rfl | (simp; done) | (simp [*]; done)), (by first | rfl | (simp; done) | (simp [*]; done)), H', ⟨Nat.le_refl _⟩, by repeat (first | exact Drawn0.refl _ | apply Drawn0.step)⟩
  case round =>
    clear H'
    try clear c1
    try clear p2
    obtain ⟨x5_1, x6_1, x17_1, rfl, rfl, rfl, HA, HK1, ⟨m1, rfl⟩⟩ := hrel
    cases gk with
    | zero => exact absurd HA.out (by simp [sum16_Add.l0])
    | succ k1 =>
      have H := HA.out
      clear HA
      simp only [sum16_Add.l0] at H
      by_cases c3 : x17_1 < (a1.size : Int)
      · rw [if_pos c3] at H
        have c3b0 : decide (x17_1 < (a1.size : Int)) = true := decide_eq_true c3
        clear c3
        by_cases c4 : 0 ≤ x17_1
        · rw [if_pos c4] at H
          have c4b0 : decide (0 ≤ x17_1) = true := decide_eq_true c4
          clear c4
          by_cases c5 : x17_1 < (a1.size : Int)
          · rw [if_pos c5] at H
            have c5b0 : decide (x17_1 < (a1.size : Int)) = true := decide_eq_true c5
            clear c5
            have H' := Aside0.mk H
            clear H
            have p6 : 0 ≤ (x17_1 : Int) := of_decide_eq_true (by first | (with_reducible assumption) | assumption)
            have q6 : x17_1 < (a1.size : Int) := of_decide_eq_true (by first | (with_reducible assumption) | assumption)
            have hx6 := bt_at a1 x17_1
            replace p6 := eq_true p6
            replace q6 := eq_true q6
            go_wp2
            go_roundg k1
            case measure => have := HK1.out; omega
            case rel => exact ⟨(Int.tmod (wrap64 (x5_1 + (wrap64 (bt a1 x17_1)))) 255), (Int.tmod (wrap64 (x6_1 + (Int.tmod (wrap64 (x5_1 + (wrap64 (bt a1 x17_1)))) 255))) 255), (wrap64 (x17_1 + 1)), (by first | rfl | (simp; done) | (simp [*]; done)), (by first | rfl | (simp; done) | (simp [*]; done)), (by first | rfl | (simp; done) | (simp [*]; done)), H', ⟨by have := HK1.out; omega⟩, by repeat (first | exact Drawn0.refl _ | apply Drawn0.step)⟩
          · rw [if_neg c5] at H
            exact absurd H (by simp)
        · rw [if_neg c4] at H
          exact absurd H (by simp)
      · rw [if_neg c3] at H
        have c3b0 : decide (x17_1 < (a1.size : Int)) = false := decide_eq_false c3
        clear c3
        obtain rfl := Option.some.inj H
        go_wp2
        go_ret
        exact ⟨by first | rfl | (simp; done) | (simp [*]; done), by repeat (first | exact Drawn0.refl _ | apply Drawn0.step)⟩

/-! ### sum16_Sum: function 8 -/
def sum16_Sum.f (k : Nat) (a0 : ByteArray) : Option (Int) := (sum16_Add.f k 0 a0).bind fun t101 => (some t101)
theorem sum16_Sum.mono : ∀ a0 k, LeO (sum16_Sum.f k a0) (sum16_Sum.f (k + 1) a0) := by
  intro a0 k
  unfold sum16_Sum.f
  repeat' first
      | (with_reducible exact sum16_Add.mono _ _ _)
      | (with_reducible exact LeO.refl _)
      | (with_reducible exact LeO.none _)
      | (with_reducible refine LeO.ite ?_ ?_)
      | (with_reducible refine LeO.bind ?_ (fun _ => ?_))
      | exact sum16_Add.mono _ _ _
      | exact LeO.none _
      | refine LeO.ite ?_ ?_
      | refine LeO.bind ?_ (fun _ => ?_)
set_option maxHeartbeats 8000000 in
set_option maxRecDepth 100000 in
theorem sum16_Sum.calls (k : Nat) (a0 : ByteArray) (r : Int) (w : World) (h : sum16_Sum.f k a0 = some r) :
    Calls Try.prog 8 #[.string a0] w fun e w' => e = .returned (.int .i64 r) ∧ Drawn0 w w' := by
  have H : ((sum16_Add.f k 0 a0).bind fun t101 => (some t101)) = some r := h
  clear h
  replace H := Option.bind_eq_some_iff.mp H
  obtain ⟨t101, A20, H⟩ := H
  replace H : (some t101) = some r := H
  have A2 := Aside0.mk A20
  clear A20
  obtain rfl := Option.some.inj H
  go_enter Try.func8, Try.ntmps8
  go_wp2_with (first | ((with_reducible refine gate_callee (f := 10) rfl ?_); refine goesL_ (some 4) rfl rfl Try.func10 (by kernel_rfl) rfl #[.int .i64 0, .string a0] rfl (by (try simp only [List.map_toArray, List.map_cons, List.map_nil]); first | done | rfl | (simp only [List.length_drop, List.length_take]; rfl)) ?_; (with_reducible refine (sum16_Add.calls k 0 a0 t101 _ A2.out).mono ?_); rintro e w' ⟨rfl, ⟨nd, rfl⟩⟩; refine ⟨_, rfl, ?_⟩))
  go_ret
  exact ⟨by first | rfl | (simp; done) | (simp [*]; done), by repeat (first | exact Drawn0.refl _ | apply Drawn0.step)⟩

/-! ### haulierlaw05_alive: function 7 -/
def haulierlaw05_alive.f (k : Nat)  : Option (Bool) := (sum16_Sum.f k (⟨#[97, 98]⟩ : ByteArray)).bind fun t102 => (if t102 = 9667 then ((sum16_Sum.f k (⟨#[]⟩ : ByteArray)).bind fun t103 => (some (t103 == 0))) else (some false))
theorem haulierlaw05_alive.mono : ∀ k, LeO (haulierlaw05_alive.f k ) (haulierlaw05_alive.f (k + 1) ) := by
  intro  k
  unfold haulierlaw05_alive.f
  repeat' first
      | (with_reducible exact sum16_Sum.mono _ _)
      | (with_reducible exact LeO.refl _)
      | (with_reducible exact LeO.none _)
      | (with_reducible refine LeO.ite ?_ ?_)
      | (with_reducible refine LeO.bind ?_ (fun _ => ?_))
      | exact sum16_Sum.mono _ _
      | exact LeO.none _
      | refine LeO.ite ?_ ?_
      | refine LeO.bind ?_ (fun _ => ?_)
set_option maxHeartbeats 8000000 in
set_option maxRecDepth 100000 in
theorem haulierlaw05_alive.calls (k : Nat)  (r : Bool) (w : World) (h : haulierlaw05_alive.f k  = some r) :
    Calls Try.prog 7 #[] w fun e w' => e = .returned (.bool r) ∧ Drawn0 w w' := by
  have H : ((sum16_Sum.f k (⟨#[97, 98]⟩ : ByteArray)).bind fun t102 => (if t102 = 9667 then ((sum16_Sum.f k (⟨#[]⟩ : ByteArray)).bind fun t103 => (some (t103 == 0))) else (some false))) = some r := h
  clear h
  replace H := Option.bind_eq_some_iff.mp H
  obtain ⟨t102, A10, H⟩ := H
  replace H : (if t102 = 9667 then ((sum16_Sum.f k (⟨#[]⟩ : ByteArray)).bind fun t103 => (some (t103 == 0))) else (some false)) = some r := H
  have A1 := Aside0.mk A10
  clear A10
  by_cases c2 : t102 = 9667
  · rw [if_pos c2] at H
    have c2b0 : (t102 == 9667) = true := beq_iff_eq.mpr c2
    have c2b1 : (t102 != 9667) = false := bne_eq_false_iff_eq.mpr c2
    clear c2
    replace H := Option.bind_eq_some_iff.mp H
    obtain ⟨t103, A30, H⟩ := H
    replace H : (some (t103 == 0)) = some r := H
    have A3 := Aside0.mk A30
    clear A30
    obtain rfl := Option.some.inj H
    go_enter Try.func7, Try.ntmps7
    go_wp2_with (first | ((with_reducible refine gate_callee (f := 8) rfl ?_); refine goesL_ (some 1) rfl rfl Try.func8 (by kernel_rfl) rfl #[.string (⟨#[97, 98]⟩ : ByteArray)] rfl (by (try simp only [List.map_toArray, List.map_cons, List.map_nil]); first | done | rfl | (simp only [List.length_drop, List.length_take]; rfl)) ?_; (with_reducible refine (sum16_Sum.calls k (⟨#[97, 98]⟩ : ByteArray) t102 _ A1.out).mono ?_); rintro e w' ⟨rfl, ⟨nd, rfl⟩⟩; refine ⟨_, rfl, ?_⟩) | (go_at_call 8; (with_reducible refine (sum16_Sum.calls k (⟨#[]⟩ : ByteArray) t103 _ A3.out).mono ?_); rintro e w' ⟨rfl, ⟨nd, rfl⟩⟩))
    go_ret
    exact ⟨by first | rfl | (simp; done) | (simp [*]; done), by repeat (first | exact Drawn0.refl _ | apply Drawn0.step)⟩
  · rw [if_neg c2] at H
    have c2b0 : (t102 == 9667) = false := beq_eq_false_iff_ne.mpr c2
    have c2b1 : (t102 != 9667) = true := bne_iff_ne.mpr c2
    obtain rfl := Option.some.inj H
    go_enter Try.func7, Try.ntmps7
    go_wp2_with (first | ((with_reducible refine gate_callee (f := 8) rfl ?_); refine goesL_ (some 1) rfl rfl Try.func8 (by kernel_rfl) rfl #[.string (⟨#[97, 98]⟩ : ByteArray)] rfl (by (try simp only [List.map_toArray, List.map_cons, List.map_nil]); first | done | rfl | (simp only [List.length_drop, List.length_take]; rfl)) ?_; (with_reducible refine (sum16_Sum.calls k (⟨#[97, 98]⟩ : ByteArray) t102 _ A1.out).mono ?_); rintro e w' ⟨rfl, ⟨nd, rfl⟩⟩; refine ⟨_, rfl, ?_⟩))
    go_ret
    exact ⟨by first | rfl | (simp; done) | (simp [*]; done), by repeat (first | exact Drawn0.refl _ | apply Drawn0.step)⟩

/-! ### haulierref05_Add: function 11 -/
mutual
def haulierref05_Add.j0 : Nat → ByteArray → Int → Option (Int)
  | 0, _, _ => none
  | k + 1, x1, x5 => haulierref05_Add.l0 k x1 (Int.tmod (Int.tmod x5 256) 255) (Int.tmod (wrap64 (Int.tdiv x5 256)) 255) 0
def haulierref05_Add.l0 : Nat → ByteArray → Int → Int → Int → Option (Int)
  | 0, _, _, _, _ => none
  | k + 1, x1, x6, x7, x8 => if x8 < (x1.size : Int) then (if 0 ≤ x8 then (haulierref05_Add.l0 k x1 (Int.tmod (wrap64 (x6 + (wrap64 (bt x1 x8)))) 255) (Int.tmod (wrap64 (x7 + (Int.tmod (wrap64 (x6 + (wrap64 (bt x1 x8)))) 255))) 255) (wrap64 (x8 + 1))) else (none)) else (some (wrap64 ((wrap64 (256 * x7)) + x6)))
end
def haulierref05_Add.f (k : Nat) (a0 : Int) (a1 : ByteArray) : Option (Int) := if (Int.tmod a0 65536) < 0 then (haulierref05_Add.j0 k a1 (wrap64 ((Int.tmod a0 65536) + 65536))) else (haulierref05_Add.j0 k a1 (Int.tmod a0 65536))
theorem haulierref05_Add.mono_l : ∀ k, (∀ y0 y1, LeO (haulierref05_Add.j0 k y0 y1) (haulierref05_Add.j0 (k + 1) y0 y1)) ∧ (∀ y0 y1 y2 y3, LeO (haulierref05_Add.l0 k y0 y1 y2 y3) (haulierref05_Add.l0 (k + 1) y0 y1 y2 y3))
  | 0 => ⟨fun _ _ r h => by simp [haulierref05_Add.j0] at h, fun _ _ _ _ r h => by simp [haulierref05_Add.l0] at h⟩
  | k + 1 => by
    obtain ⟨ih0, ih1⟩ := haulierref05_Add.mono_l k
    refine ⟨?_, ?_⟩
    · intro y0 y1
      unfold haulierref05_Add.j0
      repeat' first
      | (with_reducible exact ih0 _ _)
      | (with_reducible exact ih1 _ _ _ _)
      | (with_reducible exact LeO.refl _)
      | (with_reducible exact LeO.none _)
      | (with_reducible refine LeO.ite ?_ ?_)
      | (with_reducible refine LeO.bind ?_ (fun _ => ?_))
      | exact ih0 _ _
      | exact ih1 _ _ _ _
      | exact LeO.none _
      | refine LeO.ite ?_ ?_
      | refine LeO.bind ?_ (fun _ => ?_)
    · intro y0 y1 y2 y3
      unfold haulierref05_Add.l0
      repeat' first
      | (with_reducible exact ih0 _ _)
      | (with_reducible exact ih1 _ _ _ _)
      | (with_reducible exact LeO.refl _)
      | (with_reducible exact LeO.none _)
      | (with_reducible refine LeO.ite ?_ ?_)
      | (with_reducible refine LeO.bind ?_ (fun _ => ?_))
      | exact ih0 _ _
      | exact ih1 _ _ _ _
      | exact LeO.none _
      | refine LeO.ite ?_ ?_
      | refine LeO.bind ?_ (fun _ => ?_)
theorem haulierref05_Add.mono : ∀ a0 a1 k, LeO (haulierref05_Add.f k a0 a1) (haulierref05_Add.f (k + 1) a0 a1) := by
  intro a0 a1 k
  obtain ⟨ih0, ih1⟩ := haulierref05_Add.mono_l k
  unfold haulierref05_Add.f
  repeat' first
      | (with_reducible exact ih0 _ _)
      | (with_reducible exact ih1 _ _ _ _)
      | (with_reducible exact LeO.refl _)
      | (with_reducible exact LeO.none _)
      | (with_reducible refine LeO.ite ?_ ?_)
      | (with_reducible refine LeO.bind ?_ (fun _ => ?_))
      | exact ih0 _ _
      | exact ih1 _ _ _ _
      | exact LeO.none _
      | refine LeO.ite ?_ ?_
      | refine LeO.bind ?_ (fun _ => ?_)
set_option maxHeartbeats 8000000 in
set_option maxRecDepth 100000 in
theorem haulierref05_Add.calls (k : Nat) (a0 : Int) (a1 : ByteArray) (r : Int) (w : World) (h : haulierref05_Add.f k a0 a1 = some r) :
    Calls Try.prog 11 #[.int .i64 a0, .string a1] w fun e w' => e = .returned (.int .i64 r) ∧ Drawn0 w w' := by
  have H : (if (Int.tmod a0 65536) < 0 then (haulierref05_Add.j0 k a1 (wrap64 ((Int.tmod a0 65536) + 65536))) else (haulierref05_Add.j0 k a1 (Int.tmod a0 65536))) = some r := h
  clear h
  have HC3 := Aside0.mk H
  clear H
  go_enter Try.func11, Try.ntmps11
  go_upto_if 12 with (fail)
  go_cut [5] (fun v5 wc => ∃ (kq : Nat) (x5_2 : Int), v5 = .int .i64 x5_2 ∧ Aside0 (haulierref05_Add.j0 kq a1 x5_2 = some r) ∧ Aside0 (kq ≤ k) ∧ Drawn0 w wc)
  case first =>
    have H := HC3.out
    clear HC3
    by_cases c4 : (Int.tmod a0 65536) < 0
    · rw [if_pos c4] at H
      have c4b0 : decide ((Int.tmod a0 65536) < 0) = true := decide_eq_true c4
      clear c4
      (first | rw [c4b0] | (simp only [i64_w, i32_w]; rw [c4b0]) | skip)
      have H' := Aside0.mk H
      clear H
      go_wp2
      go_meet
      case rel => exact ⟨_, (wrap64 ((Int.tmod a0 65536) + 65536)), (by first | rfl | (simp; done) | (simp [*]; done)), H', ⟨by first | omega | exact Nat.le_refl _⟩, by repeat (first | exact Drawn0.refl _ | apply Drawn0.step)⟩
    · rw [if_neg c4] at H
      have c4b0 : decide ((Int.tmod a0 65536) < 0) = false := decide_eq_false c4
      clear c4
      (first | rw [c4b0] | (simp only [i64_w, i32_w]; rw [c4b0]) | skip)
      have H' := Aside0.mk H
      clear H
      go_wp2
      go_meet
      case rel => exact ⟨_, (Int.tmod a0 65536), (by first | rfl | (simp; done) | (simp [*]; done)), H', ⟨by first | omega | exact Nat.le_refl _⟩, by repeat (first | exact Drawn0.refl _ | apply Drawn0.step)⟩
  case rest =>
    clear HC3
    try clear c1
    try clear p2
    try clear c4
    try clear c4b0
    obtain ⟨kq, x5_2, rfl, HA, HJ2, ⟨mc2, rfl⟩⟩ := hcut
    cases kq with
    | zero => exact absurd HA.out (by simp [haulierref05_Add.j0])
    | succ kj2 =>
      have H := HA.out
      clear HA
      simp only [haulierref05_Add.j0] at H
      have H' := Aside0.mk H
      clear H
      go_wp2
      go_loopg [6, 7, 8] kj2 (fun kq v6 v7 v8 w' => ∃ (x6_2 : Int) (x7_2 : Int) (x8_2 : Int), v6 = .int .i64 x6_2 ∧ v7 = .int .i64 x7_2 ∧ v8 = .int .i64 x8_2 ∧ Aside0 (haulierref05_Add.l0 kq a1 x6_2 x7_2 x8_2 = some r) ∧ Aside0 (kq ≤ kj2) ∧ Drawn0 w w')
      case atStart => exact ⟨(Int.tmod (Int.tmod x5_2 256) 255), (Int.tmod (wrap64 (Int.tdiv x5_2 256)) 255), (0), (by first | rfl | (simp; done) | (simp [*]; done)), (by first | rfl | (simp; done) | (simp [*]; done)), (by first | rfl | (simp; done) | (simp [*]; done)), H', ⟨Nat.le_refl _⟩, by repeat (first | exact Drawn0.refl _ | apply Drawn0.step)⟩
      case round =>
        clear H'
        try clear c1
        try clear c2
        try clear p2
        try clear c4
        try clear c4b0
        try clear p2
        obtain ⟨x6_2, x7_2, x8_2, rfl, rfl, rfl, HA, HK2, ⟨m2, rfl⟩⟩ := hrel
        cases gk with
        | zero => exact absurd HA.out (by simp [haulierref05_Add.l0])
        | succ k2 =>
          have H := HA.out
          clear HA
          simp only [haulierref05_Add.l0] at H
          by_cases c5 : x8_2 < (a1.size : Int)
          · rw [if_pos c5] at H
            have c5b0 : decide (x8_2 < (a1.size : Int)) = true := decide_eq_true c5
            clear c5
            by_cases c6 : 0 ≤ x8_2
            · rw [if_pos c6] at H
              have c6b0 : decide (0 ≤ x8_2) = true := decide_eq_true c6
              clear c6
              have H' := Aside0.mk H
              clear H
              have p7 : 0 ≤ (x8_2 : Int) := of_decide_eq_true (by first | (with_reducible assumption) | assumption)
              have q7 : x8_2 < (a1.size : Int) := of_decide_eq_true (by first | (with_reducible assumption) | assumption)
              have hx7 := bt_at a1 x8_2
              replace p7 := eq_true p7
              replace q7 := eq_true q7
              go_wp2
              go_roundg k2
              case measure => have := HJ2.out; have := HK2.out; omega
              case rel => exact ⟨(Int.tmod (wrap64 (x6_2 + (wrap64 (bt a1 x8_2)))) 255), (Int.tmod (wrap64 (x7_2 + (Int.tmod (wrap64 (x6_2 + (wrap64 (bt a1 x8_2)))) 255))) 255), (wrap64 (x8_2 + 1)), (by first | rfl | (simp; done) | (simp [*]; done)), (by first | rfl | (simp; done) | (simp [*]; done)), (by first | rfl | (simp; done) | (simp [*]; done)), H', ⟨by have := HJ2.out; have := HK2.out; omega⟩, by repeat (first | exact Drawn0.refl _ | apply Drawn0.step)⟩
            · rw [if_neg c6] at H
              exact absurd H (by simp)
          · rw [if_neg c5] at H
            have c5b0 : decide (x8_2 < (a1.size : Int)) = false := decide_eq_false c5
            clear c5
            obtain rfl := Option.some.inj H
            go_wp2
            go_ret
            exact ⟨by first | rfl | (simp; done) | (simp [*]; done), by repeat (first | exact Drawn0.refl _ | apply Drawn0.step)⟩

/-! ### haulierref05_Sum: function 9 -/
def haulierref05_Sum.f (k : Nat) (a0 : ByteArray) : Option (Int) := (haulierref05_Add.f k 0 a0).bind fun t104 => (some t104)
theorem haulierref05_Sum.mono : ∀ a0 k, LeO (haulierref05_Sum.f k a0) (haulierref05_Sum.f (k + 1) a0) := by
  intro a0 k
  unfold haulierref05_Sum.f
  repeat' first
      | (with_reducible exact haulierref05_Add.mono _ _ _)
      | (with_reducible exact LeO.refl _)
      | (with_reducible exact LeO.none _)
      | (with_reducible refine LeO.ite ?_ ?_)
      | (with_reducible refine LeO.bind ?_ (fun _ => ?_))
      | exact haulierref05_Add.mono _ _ _
      | exact LeO.none _
      | refine LeO.ite ?_ ?_
      | refine LeO.bind ?_ (fun _ => ?_)
set_option maxHeartbeats 8000000 in
set_option maxRecDepth 100000 in
theorem haulierref05_Sum.calls (k : Nat) (a0 : ByteArray) (r : Int) (w : World) (h : haulierref05_Sum.f k a0 = some r) :
    Calls Try.prog 9 #[.string a0] w fun e w' => e = .returned (.int .i64 r) ∧ Drawn0 w w' := by
  have H : ((haulierref05_Add.f k 0 a0).bind fun t104 => (some t104)) = some r := h
  clear h
  replace H := Option.bind_eq_some_iff.mp H
  obtain ⟨t104, A20, H⟩ := H
  replace H : (some t104) = some r := H
  have A2 := Aside0.mk A20
  clear A20
  obtain rfl := Option.some.inj H
  go_enter Try.func9, Try.ntmps9
  go_wp2_with (first | ((with_reducible refine gate_callee (f := 11) rfl ?_); refine goesL_ (some 4) rfl rfl Try.func11 (by kernel_rfl) rfl #[.int .i64 0, .string a0] rfl (by (try simp only [List.map_toArray, List.map_cons, List.map_nil]); first | done | rfl | (simp only [List.length_drop, List.length_take]; rfl)) ?_; (with_reducible refine (haulierref05_Add.calls k 0 a0 t104 _ A2.out).mono ?_); rintro e w' ⟨rfl, ⟨nd, rfl⟩⟩; refine ⟨_, rfl, ?_⟩))
  go_ret
  exact ⟨by first | rfl | (simp; done) | (simp [*]; done), by repeat (first | exact Drawn0.refl _ | apply Drawn0.step)⟩

/-! ### haulierlaw05_Sum16Sums: function 3 -/
def haulierlaw05_Sum16Sums.j0 : Nat → ByteArray → ByteArray → Int → Bool → Option (Bool)
  | 0, _, _, _, _ => none
  | k + 1, x0, x1, x2, x14 => if x14 = true then ((haulierlaw05_alive.f k).bind fun t105 => (some t105)) else ((sum16_Sum.f k x0).bind fun t106 => ((haulierref05_Sum.f k x0).bind fun t107 => (if t106 = t107 then ((sum16_Add.f k x2 x1).bind fun t108 => ((haulierref05_Add.f k x2 x1).bind fun t109 => (if t108 = t109 then ((sum16_Sum.f k x0).bind fun t110 => ((sum16_Add.f k t110 x1).bind fun t111 => (if x0.size + x1.size ≤ 9223372036854775807 then ((sum16_Sum.f k (x0 ++ x1)).bind fun t112 => (if t111 = t112 then ((haulierlaw05_alive.f k).bind fun t113 => (some t113)) else (some false))) else (none)))) else (some false)))) else (some false))))
def haulierlaw05_Sum16Sums.f (k : Nat) (a0 : ByteArray) (a1 : ByteArray) (a2 : Int) : Option (Bool) := if (a0.size : Int) > 3000 then (haulierlaw05_Sum16Sums.j0 k a0 a1 a2 true) else (haulierlaw05_Sum16Sums.j0 k a0 a1 a2 (decide ((a1.size : Int) > 3000)))
theorem haulierlaw05_Sum16Sums.mono_l : ∀ k, (∀ y0 y1 y2 y3, LeO (haulierlaw05_Sum16Sums.j0 k y0 y1 y2 y3) (haulierlaw05_Sum16Sums.j0 (k + 1) y0 y1 y2 y3))
  | 0 => fun _ _ _ _ r h => by simp [haulierlaw05_Sum16Sums.j0] at h
  | k + 1 => by
    have ih0 := haulierlaw05_Sum16Sums.mono_l k
    · intro y0 y1 y2 y3
      unfold haulierlaw05_Sum16Sums.j0
      repeat' first
      | (with_reducible exact ih0 _ _ _ _)
      | (with_reducible exact haulierlaw05_alive.mono _)
      | (with_reducible exact haulierref05_Add.mono _ _ _)
      | (with_reducible exact haulierref05_Sum.mono _ _)
      | (with_reducible exact sum16_Add.mono _ _ _)
      | (with_reducible exact sum16_Sum.mono _ _)
      | (with_reducible exact LeO.refl _)
      | (with_reducible exact LeO.none _)
      | (with_reducible refine LeO.ite ?_ ?_)
      | (with_reducible refine LeO.bind ?_ (fun _ => ?_))
      | exact ih0 _ _ _ _
      | exact haulierlaw05_alive.mono _
      | exact haulierref05_Add.mono _ _ _
      | exact haulierref05_Sum.mono _ _
      | exact sum16_Add.mono _ _ _
      | exact sum16_Sum.mono _ _
      | exact LeO.none _
      | refine LeO.ite ?_ ?_
      | refine LeO.bind ?_ (fun _ => ?_)
theorem haulierlaw05_Sum16Sums.mono : ∀ a0 a1 a2 k, LeO (haulierlaw05_Sum16Sums.f k a0 a1 a2) (haulierlaw05_Sum16Sums.f (k + 1) a0 a1 a2) := by
  intro a0 a1 a2 k
  have ih0 := haulierlaw05_Sum16Sums.mono_l k
  unfold haulierlaw05_Sum16Sums.f
  repeat' first
      | (with_reducible exact ih0 _ _ _ _)
      | (with_reducible exact haulierlaw05_alive.mono _)
      | (with_reducible exact haulierref05_Add.mono _ _ _)
      | (with_reducible exact haulierref05_Sum.mono _ _)
      | (with_reducible exact sum16_Add.mono _ _ _)
      | (with_reducible exact sum16_Sum.mono _ _)
      | (with_reducible exact LeO.refl _)
      | (with_reducible exact LeO.none _)
      | (with_reducible refine LeO.ite ?_ ?_)
      | (with_reducible refine LeO.bind ?_ (fun _ => ?_))
      | exact ih0 _ _ _ _
      | exact haulierlaw05_alive.mono _
      | exact haulierref05_Add.mono _ _ _
      | exact haulierref05_Sum.mono _ _
      | exact sum16_Add.mono _ _ _
      | exact sum16_Sum.mono _ _
      | exact LeO.none _
      | refine LeO.ite ?_ ?_
      | refine LeO.bind ?_ (fun _ => ?_)
set_option maxHeartbeats 8000000 in
set_option maxRecDepth 100000 in
theorem haulierlaw05_Sum16Sums.calls (k : Nat) (a0 : ByteArray) (a1 : ByteArray) (a2 : Int) (r : Bool) (w : World) (h : haulierlaw05_Sum16Sums.f k a0 a1 a2 = some r) :
    Calls Try.prog 3 #[.string a0, .string a1, .int .i64 a2] w fun e w' => e = .returned (.bool r) ∧ Drawn0 w w' := by
  have H : (if (a0.size : Int) > 3000 then (haulierlaw05_Sum16Sums.j0 k a0 a1 a2 true) else (haulierlaw05_Sum16Sums.j0 k a0 a1 a2 (decide ((a1.size : Int) > 3000)))) = some r := h
  clear h
  have HC4 := Aside0.mk H
  clear H
  go_enter Try.func3, Try.ntmps3
  go_upto_region 1 with (fail)
  go_cut [14] (fun v14 wc => ∃ (kq : Nat) (x14_3 : Bool), v14 = .bool x14_3 ∧ Aside0 (haulierlaw05_Sum16Sums.j0 kq a0 a1 a2 x14_3 = some r) ∧ Aside0 (kq ≤ k) ∧ Drawn0 w wc)
  case first =>
    have H := HC4.out
    clear HC4
    by_cases c5 : (a0.size : Int) > 3000
    · rw [if_pos c5] at H
      have c5b0 : decide (3000 < (a0.size : Int)) = true := decide_eq_true c5
      have c5b1 : decide (3000 < a0.size) = true := decide_eq_true (by omega)
      clear c5
      (first | rw [c5b0] | (simp only [i64_w, i32_w]; rw [c5b0]) | skip)
      have H' := Aside0.mk H
      clear H
      go_wp2
      go_meet
      case rel => exact ⟨_, (true), (by first | rfl | (simp; done) | (simp [*]; done)), H', ⟨by first | omega | exact Nat.le_refl _⟩, by repeat (first | exact Drawn0.refl _ | apply Drawn0.step)⟩
    · rw [if_neg c5] at H
      have c5b0 : decide (3000 < (a0.size : Int)) = false := decide_eq_false c5
      have c5b1 : decide (3000 < a0.size) = false := decide_eq_false (by omega)
      clear c5
      (first | rw [c5b0] | (simp only [i64_w, i32_w]; rw [c5b0]) | skip)
      have H' := Aside0.mk H
      clear H
      go_wp2
      go_meet
      case rel => exact ⟨_, (decide ((a1.size : Int) > 3000)), (by first | rfl | (simp; done) | (simp [*]; done)), H', ⟨by first | omega | exact Nat.le_refl _⟩, by repeat (first | exact Drawn0.refl _ | apply Drawn0.step)⟩
  case rest =>
    clear HC4
    try clear p2
    try clear c3
    try clear c5
    try clear c5b0
    try clear c5b1
    obtain ⟨kq, x14_3, rfl, HA, HJ3, ⟨mc3, rfl⟩⟩ := hcut
    cases kq with
    | zero => exact absurd HA.out (by simp [haulierlaw05_Sum16Sums.j0])
    | succ kj3 =>
      have H := HA.out
      clear HA
      simp only [haulierlaw05_Sum16Sums.j0] at H
      by_cases c6 : x14_3 = true
      · subst c6
        have H1 : ((haulierlaw05_alive.f kj3).bind fun t105 => (some t105)) = some r := by rw [if_pos rfl] at H; exact H
        clear H
        have H := H1
        clear H1
        replace H := Option.bind_eq_some_iff.mp H
        obtain ⟨t105, A70, H⟩ := H
        replace H : (some t105) = some r := H
        have A7 := Aside0.mk A70
        clear A70
        obtain rfl := Option.some.inj H
        go_wp2_with (first | ((with_reducible refine gate_callee (f := 7) rfl ?_); refine goesL_ (some 15) rfl rfl Try.func7 (by kernel_rfl) rfl #[] rfl (by (try simp only [List.map_toArray, List.map_cons, List.map_nil]); first | done | rfl | (simp only [List.length_drop, List.length_take]; rfl)) ?_; (with_reducible refine (haulierlaw05_alive.calls kj3  t105 _ A7.out).mono ?_); rintro e w' ⟨rfl, ⟨nd, rfl⟩⟩; refine ⟨_, rfl, ?_⟩))
        go_ret
        exact ⟨by first | rfl | (simp; done) | (simp [*]; done), by repeat (first | exact Drawn0.refl _ | apply Drawn0.step)⟩
      · replace c6 := Bool.eq_false_iff.mpr c6
        subst c6
        have H1 : ((sum16_Sum.f kj3 a0).bind fun t106 => ((haulierref05_Sum.f kj3 a0).bind fun t107 => (if t106 = t107 then ((sum16_Add.f kj3 a2 a1).bind fun t108 => ((haulierref05_Add.f kj3 a2 a1).bind fun t109 => (if t108 = t109 then ((sum16_Sum.f kj3 a0).bind fun t110 => ((sum16_Add.f kj3 t110 a1).bind fun t111 => (if a0.size + a1.size ≤ 9223372036854775807 then ((sum16_Sum.f kj3 (a0 ++ a1)).bind fun t112 => (if t111 = t112 then ((haulierlaw05_alive.f kj3).bind fun t113 => (some t113)) else (some false))) else (none)))) else (some false)))) else (some false)))) = some r := by rw [if_neg (show ¬ (false = true) by decide)] at H; exact H
        clear H
        have H := H1
        clear H1
        replace H := Option.bind_eq_some_iff.mp H
        obtain ⟨t106, A80, H⟩ := H
        replace H : ((haulierref05_Sum.f kj3 a0).bind fun t107 => (if t106 = t107 then ((sum16_Add.f kj3 a2 a1).bind fun t108 => ((haulierref05_Add.f kj3 a2 a1).bind fun t109 => (if t108 = t109 then ((sum16_Sum.f kj3 a0).bind fun t110 => ((sum16_Add.f kj3 t110 a1).bind fun t111 => (if a0.size + a1.size ≤ 9223372036854775807 then ((sum16_Sum.f kj3 (a0 ++ a1)).bind fun t112 => (if t111 = t112 then ((haulierlaw05_alive.f kj3).bind fun t113 => (some t113)) else (some false))) else (none)))) else (some false)))) else (some false))) = some r := H
        have A8 := Aside0.mk A80
        clear A80
        replace H := Option.bind_eq_some_iff.mp H
        obtain ⟨t107, A90, H⟩ := H
        replace H : (if t106 = t107 then ((sum16_Add.f kj3 a2 a1).bind fun t108 => ((haulierref05_Add.f kj3 a2 a1).bind fun t109 => (if t108 = t109 then ((sum16_Sum.f kj3 a0).bind fun t110 => ((sum16_Add.f kj3 t110 a1).bind fun t111 => (if a0.size + a1.size ≤ 9223372036854775807 then ((sum16_Sum.f kj3 (a0 ++ a1)).bind fun t112 => (if t111 = t112 then ((haulierlaw05_alive.f kj3).bind fun t113 => (some t113)) else (some false))) else (none)))) else (some false)))) else (some false)) = some r := H
        have A9 := Aside0.mk A90
        clear A90
        by_cases c10 : t106 = t107
        · rw [if_pos c10] at H
          have c10b0 : (t106 == t107) = true := beq_iff_eq.mpr c10
          have c10b1 : (t106 != t107) = false := bne_eq_false_iff_eq.mpr c10
          clear c10
          replace H := Option.bind_eq_some_iff.mp H
          obtain ⟨t108, A110, H⟩ := H
          replace H : ((haulierref05_Add.f kj3 a2 a1).bind fun t109 => (if t108 = t109 then ((sum16_Sum.f kj3 a0).bind fun t110 => ((sum16_Add.f kj3 t110 a1).bind fun t111 => (if a0.size + a1.size ≤ 9223372036854775807 then ((sum16_Sum.f kj3 (a0 ++ a1)).bind fun t112 => (if t111 = t112 then ((haulierlaw05_alive.f kj3).bind fun t113 => (some t113)) else (some false))) else (none)))) else (some false))) = some r := H
          have A11 := Aside0.mk A110
          clear A110
          replace H := Option.bind_eq_some_iff.mp H
          obtain ⟨t109, A120, H⟩ := H
          replace H : (if t108 = t109 then ((sum16_Sum.f kj3 a0).bind fun t110 => ((sum16_Add.f kj3 t110 a1).bind fun t111 => (if a0.size + a1.size ≤ 9223372036854775807 then ((sum16_Sum.f kj3 (a0 ++ a1)).bind fun t112 => (if t111 = t112 then ((haulierlaw05_alive.f kj3).bind fun t113 => (some t113)) else (some false))) else (none)))) else (some false)) = some r := H
          have A12 := Aside0.mk A120
          clear A120
          by_cases c13 : t108 = t109
          · rw [if_pos c13] at H
            have c13b0 : (t108 == t109) = true := beq_iff_eq.mpr c13
            have c13b1 : (t108 != t109) = false := bne_eq_false_iff_eq.mpr c13
            clear c13
            replace H := Option.bind_eq_some_iff.mp H
            obtain ⟨t110, A140, H⟩ := H
            replace H : ((sum16_Add.f kj3 t110 a1).bind fun t111 => (if a0.size + a1.size ≤ 9223372036854775807 then ((sum16_Sum.f kj3 (a0 ++ a1)).bind fun t112 => (if t111 = t112 then ((haulierlaw05_alive.f kj3).bind fun t113 => (some t113)) else (some false))) else (none))) = some r := H
            have A14 := Aside0.mk A140
            clear A140
            replace H := Option.bind_eq_some_iff.mp H
            obtain ⟨t111, A150, H⟩ := H
            replace H : (if a0.size + a1.size ≤ 9223372036854775807 then ((sum16_Sum.f kj3 (a0 ++ a1)).bind fun t112 => (if t111 = t112 then ((haulierlaw05_alive.f kj3).bind fun t113 => (some t113)) else (some false))) else (none)) = some r := H
            have A15 := Aside0.mk A150
            clear A150
            by_cases c16 : a0.size + a1.size ≤ 9223372036854775807
            · rw [if_pos c16] at H
              have c16b0 := eq_true c16
              have c16b1 : decide (a0.size + a1.size ≤ 9223372036854775807) = true := decide_eq_true c16
              try have c16b2 : (9223372036854775807 < a0.size + a1.size) = False := eq_false (Nat.not_lt.2 c16)
              replace H := Option.bind_eq_some_iff.mp H
              obtain ⟨t112, A170, H⟩ := H
              replace H : (if t111 = t112 then ((haulierlaw05_alive.f kj3).bind fun t113 => (some t113)) else (some false)) = some r := H
              have A17 := Aside0.mk A170
              clear A170
              by_cases c18 : t111 = t112
              · rw [if_pos c18] at H
                have c18b0 : (t111 == t112) = true := beq_iff_eq.mpr c18
                have c18b1 : (t111 != t112) = false := bne_eq_false_iff_eq.mpr c18
                clear c18
                replace H := Option.bind_eq_some_iff.mp H
                obtain ⟨t113, A190, H⟩ := H
                replace H : (some t113) = some r := H
                have A19 := Aside0.mk A190
                clear A190
                obtain rfl := Option.some.inj H
                go_wp2_with (first | ((with_reducible refine gate_callee (f := 8) rfl ?_); refine goesL_ (some 17) rfl rfl Try.func8 (by kernel_rfl) rfl #[.string a0] rfl (by (try simp only [List.map_toArray, List.map_cons, List.map_nil]); first | done | rfl | (simp only [List.length_drop, List.length_take]; rfl)) ?_; (with_reducible refine (sum16_Sum.calls kj3 a0 t106 _ A8.out).mono ?_); rintro e w' ⟨rfl, ⟨nd, rfl⟩⟩; refine ⟨_, rfl, ?_⟩) | ((with_reducible refine gate_callee (f := 9) rfl ?_); refine goesL_ (some 19) rfl rfl Try.func9 (by kernel_rfl) rfl #[.string a0] rfl (by (try simp only [List.map_toArray, List.map_cons, List.map_nil]); first | done | rfl | (simp only [List.length_drop, List.length_take]; rfl)) ?_; (with_reducible refine (haulierref05_Sum.calls kj3 a0 t107 _ A9.out).mono ?_); rintro e w' ⟨rfl, ⟨nd, rfl⟩⟩; refine ⟨_, rfl, ?_⟩) | (go_at_call 10; (with_reducible refine (sum16_Add.calls kj3 a2 a1 t108 _ A11.out).mono ?_); rintro e w' ⟨rfl, ⟨nd, rfl⟩⟩) | (go_at_call 11; (with_reducible refine (haulierref05_Add.calls kj3 a2 a1 t109 _ A12.out).mono ?_); rintro e w' ⟨rfl, ⟨nd, rfl⟩⟩) | (go_at_call 8; (with_reducible refine (sum16_Sum.calls kj3 a0 t110 _ A14.out).mono ?_); rintro e w' ⟨rfl, ⟨nd, rfl⟩⟩) | (go_at_call 10; (with_reducible refine (sum16_Add.calls kj3 t110 a1 t111 _ A15.out).mono ?_); rintro e w' ⟨rfl, ⟨nd, rfl⟩⟩) | (go_at_call 8; (with_reducible refine (sum16_Sum.calls kj3 (a0 ++ a1) t112 _ A17.out).mono ?_); rintro e w' ⟨rfl, ⟨nd, rfl⟩⟩) | (go_at_call 7; (with_reducible refine (haulierlaw05_alive.calls kj3  t113 _ A19.out).mono ?_); rintro e w' ⟨rfl, ⟨nd, rfl⟩⟩))
                go_ret
                exact ⟨by first | rfl | (simp; done) | (simp [*]; done), by repeat (first | exact Drawn0.refl _ | apply Drawn0.step)⟩
              · rw [if_neg c18] at H
                have c18b0 : (t111 == t112) = false := beq_eq_false_iff_ne.mpr c18
                have c18b1 : (t111 != t112) = true := bne_iff_ne.mpr c18
                obtain rfl := Option.some.inj H
                go_wp2_with (first | ((with_reducible refine gate_callee (f := 8) rfl ?_); refine goesL_ (some 17) rfl rfl Try.func8 (by kernel_rfl) rfl #[.string a0] rfl (by (try simp only [List.map_toArray, List.map_cons, List.map_nil]); first | done | rfl | (simp only [List.length_drop, List.length_take]; rfl)) ?_; (with_reducible refine (sum16_Sum.calls kj3 a0 t106 _ A8.out).mono ?_); rintro e w' ⟨rfl, ⟨nd, rfl⟩⟩; refine ⟨_, rfl, ?_⟩) | ((with_reducible refine gate_callee (f := 9) rfl ?_); refine goesL_ (some 19) rfl rfl Try.func9 (by kernel_rfl) rfl #[.string a0] rfl (by (try simp only [List.map_toArray, List.map_cons, List.map_nil]); first | done | rfl | (simp only [List.length_drop, List.length_take]; rfl)) ?_; (with_reducible refine (haulierref05_Sum.calls kj3 a0 t107 _ A9.out).mono ?_); rintro e w' ⟨rfl, ⟨nd, rfl⟩⟩; refine ⟨_, rfl, ?_⟩) | (go_at_call 10; (with_reducible refine (sum16_Add.calls kj3 a2 a1 t108 _ A11.out).mono ?_); rintro e w' ⟨rfl, ⟨nd, rfl⟩⟩) | (go_at_call 11; (with_reducible refine (haulierref05_Add.calls kj3 a2 a1 t109 _ A12.out).mono ?_); rintro e w' ⟨rfl, ⟨nd, rfl⟩⟩) | (go_at_call 8; (with_reducible refine (sum16_Sum.calls kj3 a0 t110 _ A14.out).mono ?_); rintro e w' ⟨rfl, ⟨nd, rfl⟩⟩) | (go_at_call 10; (with_reducible refine (sum16_Add.calls kj3 t110 a1 t111 _ A15.out).mono ?_); rintro e w' ⟨rfl, ⟨nd, rfl⟩⟩) | (go_at_call 8; (with_reducible refine (sum16_Sum.calls kj3 (a0 ++ a1) t112 _ A17.out).mono ?_); rintro e w' ⟨rfl, ⟨nd, rfl⟩⟩))
                go_ret
                exact ⟨by first | rfl | (simp; done) | (simp [*]; done), by repeat (first | exact Drawn0.refl _ | apply Drawn0.step)⟩
            · rw [if_neg c16] at H
              exact absurd H (by simp)
          · rw [if_neg c13] at H
            have c13b0 : (t108 == t109) = false := beq_eq_false_iff_ne.mpr c13
            have c13b1 : (t108 != t109) = true := bne_iff_ne.mpr c13
            obtain rfl := Option.some.inj H
            go_wp2_with (first | ((with_reducible refine gate_callee (f := 8) rfl ?_); refine goesL_ (some 17) rfl rfl Try.func8 (by kernel_rfl) rfl #[.string a0] rfl (by (try simp only [List.map_toArray, List.map_cons, List.map_nil]); first | done | rfl | (simp only [List.length_drop, List.length_take]; rfl)) ?_; (with_reducible refine (sum16_Sum.calls kj3 a0 t106 _ A8.out).mono ?_); rintro e w' ⟨rfl, ⟨nd, rfl⟩⟩; refine ⟨_, rfl, ?_⟩) | ((with_reducible refine gate_callee (f := 9) rfl ?_); refine goesL_ (some 19) rfl rfl Try.func9 (by kernel_rfl) rfl #[.string a0] rfl (by (try simp only [List.map_toArray, List.map_cons, List.map_nil]); first | done | rfl | (simp only [List.length_drop, List.length_take]; rfl)) ?_; (with_reducible refine (haulierref05_Sum.calls kj3 a0 t107 _ A9.out).mono ?_); rintro e w' ⟨rfl, ⟨nd, rfl⟩⟩; refine ⟨_, rfl, ?_⟩) | (go_at_call 10; (with_reducible refine (sum16_Add.calls kj3 a2 a1 t108 _ A11.out).mono ?_); rintro e w' ⟨rfl, ⟨nd, rfl⟩⟩) | (go_at_call 11; (with_reducible refine (haulierref05_Add.calls kj3 a2 a1 t109 _ A12.out).mono ?_); rintro e w' ⟨rfl, ⟨nd, rfl⟩⟩))
            go_ret
            exact ⟨by first | rfl | (simp; done) | (simp [*]; done), by repeat (first | exact Drawn0.refl _ | apply Drawn0.step)⟩
        · rw [if_neg c10] at H
          have c10b0 : (t106 == t107) = false := beq_eq_false_iff_ne.mpr c10
          have c10b1 : (t106 != t107) = true := bne_iff_ne.mpr c10
          obtain rfl := Option.some.inj H
          go_wp2_with (first | ((with_reducible refine gate_callee (f := 8) rfl ?_); refine goesL_ (some 17) rfl rfl Try.func8 (by kernel_rfl) rfl #[.string a0] rfl (by (try simp only [List.map_toArray, List.map_cons, List.map_nil]); first | done | rfl | (simp only [List.length_drop, List.length_take]; rfl)) ?_; (with_reducible refine (sum16_Sum.calls kj3 a0 t106 _ A8.out).mono ?_); rintro e w' ⟨rfl, ⟨nd, rfl⟩⟩; refine ⟨_, rfl, ?_⟩) | ((with_reducible refine gate_callee (f := 9) rfl ?_); refine goesL_ (some 19) rfl rfl Try.func9 (by kernel_rfl) rfl #[.string a0] rfl (by (try simp only [List.map_toArray, List.map_cons, List.map_nil]); first | done | rfl | (simp only [List.length_drop, List.length_take]; rfl)) ?_; (with_reducible refine (haulierref05_Sum.calls kj3 a0 t107 _ A9.out).mono ?_); rintro e w' ⟨rfl, ⟨nd, rfl⟩⟩; refine ⟨_, rfl, ?_⟩))
          go_ret
          exact ⟨by first | rfl | (simp; done) | (simp [*]; done), by repeat (first | exact Drawn0.refl _ | apply Drawn0.step)⟩

/-- THE ONE PURE STATEMENT of haulierlaw05_Sum16Sums: yours. -/
def haulierlaw05_Sum16Sums.Pure : Prop := ∀ (a0 : ByteArray) (a1 : ByteArray) (a2 : Int), a0.size ≤ 140737488351232 → a1.size ≤ 140737488351232 → (Lit.int .i64 a2).wf = true → ∃ k, haulierlaw05_Sum16Sums.f k a0 a1 a2 = some true
theorem haulierlaw05_Sum16Sums.walk (P : haulierlaw05_Sum16Sums.Pure) (a0 : ByteArray) (a1 : ByteArray) (a2 : Int) (w : World) (w0 : a0.size ≤ 140737488351232) (w1 : a1.size ≤ 140737488351232) (w2 : (Lit.int .i64 a2).wf = true) :
    Calls Try.prog 3 #[.string a0, .string a1, .int .i64 a2] w fun e w' => e = .returned (.bool true) ∧ Below w.heap.size w w' := by
  obtain ⟨k, h⟩ := P a0 a1 a2 w0 w1 w2
  refine (haulierlaw05_Sum16Sums.calls k a0 a1 a2 true w h).mono ?_
  rintro e w' ⟨rfl, hd⟩
  exact ⟨rfl, hd.below⟩

end Go.Proofs.Ytgdgmmojejjlhaa.PSum16Sums
