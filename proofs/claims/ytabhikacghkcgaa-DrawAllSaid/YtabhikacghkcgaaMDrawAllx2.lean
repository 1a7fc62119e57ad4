/- Written by a program of this session: Go functions that the law DrawAll reaches, as Lean functions, each with a proof that the Go code comes to just what it says; every input of the kinds that a contract names. -/
import Derived.Test.YtabhikacghkcgaaMDrawAllx0
import Derived.Test.YtabhikacghkcgaaMDrawAllx1
namespace Go.Proofs.Ytabhikacghkcgaa.MDrawAll
open Go.RowKit Go.Proofs.YtabhikacghkcgaaW.PrintWords Go.Proofs.YtabhikacghkcgaaW.PrintLast Go.Proofs.YtabhikacghkcgaaW.PrintMore
attribute [local go_sem] max2_int min2_int max_two min_two max_three min_three max_four min_four   -- for this text's walks alone
set_option linter.unusedVariables false
set_option linter.unusedSimpArgs false
set_option linter.unnecessarySimpa false

/-! ### haulierref34_Unlike: function 14 -/
mutual
def haulierref34_Unlike.l0 : Nat → Int → List Int → Int → Option (Bool)
  | 0, _, _, _ => none
  | k + 1, x0, x1, x5 => if x5 < (x1.length : Int) then (if 0 ≤ x5 then (if (rd x1 x5) < 0 then (haulierref34_Unlike.j1 k x0 x1 x5 true) else (haulierref34_Unlike.j1 k x0 x1 x5 (decide ((rd x1 x5) ≥ x0)))) else (none)) else (some true)
def haulierref34_Unlike.j1 : Nat → Int → List Int → Int → Bool → Option (Bool)
  | 0, _, _, _, _ => none
  | k + 1, x0, x1, x5, x25 => if x25 = true then (some false) else (haulierref34_Unlike.l1 k x0 x1 x5 0)
def haulierref34_Unlike.l1 : Nat → Int → List Int → Int → Int → Option (Bool)
  | 0, _, _, _, _ => none
  | k + 1, x0, x1, x5, x6 => if x6 < x5 then (if 0 ≤ x6 then (if x6 < (x1.length : Int) then (if 0 ≤ x5 then (if x5 < (x1.length : Int) then (if (rd x1 x6) = (rd x1 x5) then (some false) else (haulierref34_Unlike.l1 k x0 x1 x5 (wrap64 (x6 + 1)))) else (none)) else (none)) else (none)) else (none)) else (haulierref34_Unlike.l0 k x0 x1 (wrap64 (x5 + 1)))
end
def haulierref34_Unlike.f (k : Nat) (a0 : Int) (l1 : List Int) : Option (Bool) := haulierref34_Unlike.l0 k a0 l1 0
theorem haulierref34_Unlike.mono_l : ∀ k, (∀ y0 y1 y2, LeO (haulierref34_Unlike.l0 k y0 y1 y2) (haulierref34_Unlike.l0 (k + 1) y0 y1 y2)) ∧ (∀ y0 y1 y2 y3, LeO (haulierref34_Unlike.j1 k y0 y1 y2 y3) (haulierref34_Unlike.j1 (k + 1) y0 y1 y2 y3)) ∧ (∀ y0 y1 y2 y3, LeO (haulierref34_Unlike.l1 k y0 y1 y2 y3) (haulierref34_Unlike.l1 (k + 1) y0 y1 y2 y3))
  | 0 => ⟨fun _ _ _ r h => by simp [haulierref34_Unlike.l0] at h, fun _ _ _ _ r h => by simp [haulierref34_Unlike.j1] at h, fun _ _ _ _ r h => by simp [haulierref34_Unlike.l1] at h⟩
  | k + 1 => by
    obtain ⟨ih0, ih1, ih2⟩ := haulierref34_Unlike.mono_l k
    refine ⟨?_, ?_, ?_⟩
    · intro y0 y1 y2
      unfold haulierref34_Unlike.l0
      repeat' first
      | (with_reducible exact ih0 _ _ _)
      | (with_reducible exact ih1 _ _ _ _)
      | (with_reducible exact ih2 _ _ _ _)
      | (with_reducible exact LeO.refl _)
      | (with_reducible exact LeO.none _)
      | (with_reducible refine LeO.ite ?_ ?_)
      | (with_reducible refine LeO.bind ?_ (fun _ => ?_))
      | exact ih0 _ _ _
      | exact ih1 _ _ _ _
      | exact ih2 _ _ _ _
      | exact LeO.none _
      | refine LeO.ite ?_ ?_
      | refine LeO.bind ?_ (fun _ => ?_)
    · intro y0 y1 y2 y3
      unfold haulierref34_Unlike.j1
      repeat' first
      | (with_reducible exact ih0 _ _ _)
      | (with_reducible exact ih1 _ _ _ _)
      | (with_reducible exact ih2 _ _ _ _)
      | (with_reducible exact LeO.refl _)
      | (with_reducible exact LeO.none _)
      | (with_reducible refine LeO.ite ?_ ?_)
      | (with_reducible refine LeO.bind ?_ (fun _ => ?_))
      | exact ih0 _ _ _
      | exact ih1 _ _ _ _
      | exact ih2 _ _ _ _
      | exact LeO.none _
      | refine LeO.ite ?_ ?_
      | refine LeO.bind ?_ (fun _ => ?_)
    · intro y0 y1 y2 y3
      unfold haulierref34_Unlike.l1
      repeat' first
      | (with_reducible exact ih0 _ _ _)
      | (with_reducible exact ih1 _ _ _ _)
      | (with_reducible exact ih2 _ _ _ _)
      | (with_reducible exact LeO.refl _)
      | (with_reducible exact LeO.none _)
      | (with_reducible refine LeO.ite ?_ ?_)
      | (with_reducible refine LeO.bind ?_ (fun _ => ?_))
      | exact ih0 _ _ _
      | exact ih1 _ _ _ _
      | exact ih2 _ _ _ _
      | exact LeO.none _
      | refine LeO.ite ?_ ?_
      | refine LeO.bind ?_ (fun _ => ?_)
theorem haulierref34_Unlike.mono : ∀ a0 a1 k, LeO (haulierref34_Unlike.f k a0 a1) (haulierref34_Unlike.f (k + 1) a0 a1) := by
  intro a0 a1 k
  obtain ⟨ih0, ih1, ih2⟩ := haulierref34_Unlike.mono_l k
  unfold haulierref34_Unlike.f
  repeat' first
      | (with_reducible exact ih0 _ _ _)
      | (with_reducible exact ih1 _ _ _ _)
      | (with_reducible exact ih2 _ _ _ _)
      | (with_reducible exact LeO.refl _)
      | (with_reducible exact LeO.none _)
      | (with_reducible refine LeO.ite ?_ ?_)
      | (with_reducible refine LeO.bind ?_ (fun _ => ?_))
      | exact ih0 _ _ _
      | exact ih1 _ _ _ _
      | exact ih2 _ _ _ _
      | exact LeO.none _
      | refine LeO.ite ?_ ?_
      | refine LeO.bind ?_ (fun _ => ?_)
set_option maxHeartbeats 8000000 in
set_option maxRecDepth 100000 in
theorem haulierref34_Unlike.calls (k : Nat) (a0 : Int) (A1 : Option Addr) (c1 : Nat) (l1 : List Int) (r : Bool) (w : World) (hr1 : Kd.C (Kd.int .i64) w A1 l1.length l1) (hc1 : l1.length ≤ c1) (h : haulierref34_Unlike.f k a0 l1 = some r) :
    Calls Try.prog 14 #[.int .i64 a0, .slice A1 l1.length c1] w fun e w' => e = .returned (.bool r) ∧ Drawn0 w w' := by
  have HR1 := Aside0.mk hr1
  have HC1 := Aside0.mk hc1
  clear hr1 hc1
  have H : (haulierref34_Unlike.l0 k a0 l1 0) = some r := h
  clear h
  have H' := Aside0.mk H
  clear H
  go_enter Try.func14, Try.ntmps14
  go_wp2
  repeat (go_quiet (fail); try go_wp2)
  go_loopg [5] k (fun kq v5 w' => ∃ (x5_1 : Int), v5 = .int .i64 x5_1 ∧ Aside0 (haulierref34_Unlike.l0 kq a0 l1 x5_1 = some r) ∧ Aside0 (kq ≤ k) ∧ Drawn0 w w')
  case atStart => exact ⟨(0), (by first | rfl | (simp; done) | (simp [*]; done)), H', ⟨Nat.le_refl _⟩, by repeat (first | exact Drawn0.refl _ | apply Drawn0.step)⟩
  case round =>
    clear H'
    try clear c1
    try clear p2
    obtain ⟨x5_1, rfl, HA, HK1, ⟨m1, rfl⟩⟩ := hrel
    cases gk with
    | zero => exact absurd HA.out (by simp [haulierref34_Unlike.l0])
    | succ k1 =>
      have H := HA.out
      clear HA
      simp only [haulierref34_Unlike.l0] at H
      by_cases c3 : x5_1 < (l1.length : Int)
      · rw [if_pos c3] at H
        have c3b0 : decide (x5_1 < (l1.length : Int)) = true := decide_eq_true c3
        clear c3
        have HC4 := Aside0.mk H
        clear H
        go_upto_region 4 with (fail)
        repeat (go_quiet (fail); go_upto_region 4 with (fail))
        go_cut [25] (fun v25 wc => ∃ (kq : Nat) (x25_3 : Bool), v25 = .bool x25_3 ∧ Aside0 (haulierref34_Unlike.j1 kq a0 l1 x5_1 x25_3 = some r) ∧ Aside0 (kq ≤ k1) ∧ Drawn0 w wc)
        case first =>
          have H := HC4.out
          clear HC4
          by_cases c5 : 0 ≤ x5_1
          · rw [if_pos c5] at H
            have c5b0 : decide (0 ≤ x5_1) = true := decide_eq_true c5
            clear c5
            (first | rw [c5b0] | (simp only [i64_w, i32_w]; rw [c5b0]) | skip)
            by_cases c6 : (rd l1 x5_1) < 0
            · rw [if_pos c6] at H
              have c6b0 : decide ((rd l1 x5_1) < 0) = true := decide_eq_true c6
              clear c6
              have H' := Aside0.mk H
              clear H
              have p135 : 0 ≤ (x5_1 : Int) := of_decide_eq_true (by first | (with_reducible assumption) | assumption)
              have q135 : x5_1 < (l1.length : Int) := of_decide_eq_true (by first | (with_reducible assumption) | assumption)
              obtain ⟨ad135, e135, hx135_0⟩ := Kd.at_int HR1.out x5_1 p135 q135
              cases e135
              replace p135 := eq_true p135
              replace q135 := eq_true q135
              go_wp2
              repeat (go_quiet (fail); try go_wp2)
              go_meet
              case rel => exact ⟨_, (true), (by first | rfl | (simp; done) | (simp [*]; done)), H', ⟨by have := HK1.out; first | omega | exact Nat.le_refl _⟩, by repeat (first | exact Drawn0.refl _ | apply Drawn0.step)⟩
            · rw [if_neg c6] at H
              have c6b0 : decide ((rd l1 x5_1) < 0) = false := decide_eq_false c6
              clear c6
              have H' := Aside0.mk H
              clear H
              have p135 : 0 ≤ (x5_1 : Int) := of_decide_eq_true (by first | (with_reducible assumption) | assumption)
              have q135 : x5_1 < (l1.length : Int) := of_decide_eq_true (by first | (with_reducible assumption) | assumption)
              obtain ⟨ad135, e135, hx135_0⟩ := Kd.at_int HR1.out x5_1 p135 q135
              cases e135
              replace p135 := eq_true p135
              replace q135 := eq_true q135
              have p136 : 0 ≤ (x5_1 : Int) := of_decide_eq_true (by first | (with_reducible assumption) | assumption)
              have q136 : x5_1 < (l1.length : Int) := of_decide_eq_true (by first | (with_reducible assumption) | assumption)
              obtain ⟨ad136, e136, hx136_0⟩ := Kd.at_int HR1.out x5_1 p136 q136
              obtain rfl : ad135 = ad136 := (by injection e136)
              replace p136 := eq_true p136
              replace q136 := eq_true q136
              go_wp2
              repeat (go_quiet (fail); try go_wp2)
              go_meet
              case rel => exact ⟨_, (decide ((rd l1 x5_1) ≥ a0)), (by first | rfl | (simp; done) | (simp [*]; done)), H', ⟨by have := HK1.out; first | omega | exact Nat.le_refl _⟩, by repeat (first | exact Drawn0.refl _ | apply Drawn0.step)⟩
          · rw [if_neg c5] at H
            exact absurd H (by simp)
        case rest =>
          clear HC4
          try clear c1
          try clear p1
          try clear q1
          try clear hx1
          try clear p2
          try clear c3
          try clear c3b0
          try clear c5
          try clear c5b0
          try clear c6
          try clear c6b0
          try clear hx135_0
          try clear hx136_0
          try clear p135
          try clear p136
          try clear p2
          try clear q135
          try clear q136
          obtain ⟨kq, x25_3, rfl, HA, HJ3, ⟨mc3, rfl⟩⟩ := hcut
          cases kq with
          | zero => exact absurd HA.out (by simp [haulierref34_Unlike.j1])
          | succ kj3 =>
            have H := HA.out
            clear HA
            simp only [haulierref34_Unlike.j1] at H
            by_cases c7 : x25_3 = true
            · subst c7
              have H1 : (some false) = some r := by rw [if_pos rfl] at H; exact H
              clear H
              have H := H1
              clear H1
              obtain rfl := Option.some.inj H
              go_wp2
              repeat (go_quiet (fail); try go_wp2)
              go_ret
              exact ⟨by first | rfl | (simp; done) | (simp [*]; done), by repeat (first | exact Drawn0.refl _ | apply Drawn0.step)⟩
            · replace c7 := Bool.eq_false_iff.mpr c7
              subst c7
              have H1 : (haulierref34_Unlike.l1 kj3 a0 l1 x5_1 0) = some r := by rw [if_neg (show ¬ (false = true) by decide)] at H; exact H
              clear H
              have H := H1
              clear H1
              have H' := Aside0.mk H
              clear H
              go_wp2
              repeat (go_quiet (fail); try go_wp2)
              go_loopg [6] kj3 (fun kq v6 w' => ∃ (x6_3 : Int), v6 = .int .i64 x6_3 ∧ Aside0 (haulierref34_Unlike.l1 kq a0 l1 x5_1 x6_3 = some r) ∧ Aside0 (kq ≤ kj3) ∧ Drawn0 w w')
              case atStart => exact ⟨(0), (by first | rfl | (simp; done) | (simp [*]; done)), H', ⟨Nat.le_refl _⟩, by repeat (first | exact Drawn0.refl _ | apply Drawn0.step)⟩
              case round =>
                clear H'
                try clear c1
                try clear p1
                try clear q1
                try clear hx1
                try clear p2
                try clear c3
                try clear c3b0
                try clear c5
                try clear c5b0
                try clear c6
                try clear c6b0
                try clear c7
                try clear hx135_0
                try clear hx136_0
                try clear p1
                try clear p135
                try clear p136
                try clear p2
                try clear q1
                try clear q135
                try clear q136
                obtain ⟨x6_3, rfl, HA, HK3, ⟨m3, rfl⟩⟩ := hrel
                cases gk with
                | zero => exact absurd HA.out (by simp [haulierref34_Unlike.l1])
                | succ k3 =>
                  have H := HA.out
                  clear HA
                  simp only [haulierref34_Unlike.l1] at H
                  by_cases c8 : x6_3 < x5_1
                  · rw [if_pos c8] at H
                    have c8b0 : decide (x6_3 < x5_1) = true := decide_eq_true c8
                    clear c8
                    by_cases c9 : 0 ≤ x6_3
                    · rw [if_pos c9] at H
                      have c9b0 : decide (0 ≤ x6_3) = true := decide_eq_true c9
                      clear c9
                      by_cases c10 : x6_3 < (l1.length : Int)
                      · rw [if_pos c10] at H
                        have c10b0 : decide (x6_3 < (l1.length : Int)) = true := decide_eq_true c10
                        clear c10
                        by_cases c11 : 0 ≤ x5_1
                        · rw [if_pos c11] at H
                          have c11b0 : decide (0 ≤ x5_1) = true := decide_eq_true c11
                          clear c11
                          by_cases c12 : x5_1 < (l1.length : Int)
                          · rw [if_pos c12] at H
                            have c12b0 : decide (x5_1 < (l1.length : Int)) = true := decide_eq_true c12
                            clear c12
                            by_cases c13 : (rd l1 x6_3) = (rd l1 x5_1)
                            · rw [if_pos c13] at H
                              have c13b0 : ((rd l1 x6_3) == (rd l1 x5_1)) = true := beq_iff_eq.mpr c13
                              have c13b1 : ((rd l1 x6_3) != (rd l1 x5_1)) = false := bne_eq_false_iff_eq.mpr c13
                              clear c13
                              obtain rfl := Option.some.inj H
                              have p137 : 0 ≤ (x6_3 : Int) := of_decide_eq_true (by first | (with_reducible assumption) | assumption)
                              have q137 : x6_3 < (l1.length : Int) := of_decide_eq_true (by first | (with_reducible assumption) | assumption)
                              obtain ⟨ad137, e137, hx137_0⟩ := Kd.at_int HR1.out x6_3 p137 q137
                              cases e137
                              replace p137 := eq_true p137
                              replace q137 := eq_true q137
                              have p138 : 0 ≤ (x5_1 : Int) := of_decide_eq_true (by first | (with_reducible assumption) | assumption)
                              have q138 : x5_1 < (l1.length : Int) := of_decide_eq_true (by first | (with_reducible assumption) | assumption)
                              obtain ⟨ad138, e138, hx138_0⟩ := Kd.at_int HR1.out x5_1 p138 q138
                              obtain rfl : ad137 = ad138 := (by injection e138)
                              replace p138 := eq_true p138
                              replace q138 := eq_true q138
                              go_wp2
                              repeat (go_quiet (fail); try go_wp2)
                              go_ret
                              exact ⟨by first | rfl | (simp; done) | (simp [*]; done), by repeat (first | exact Drawn0.refl _ | apply Drawn0.step)⟩
                            · rw [if_neg c13] at H
                              have c13b0 : ((rd l1 x6_3) == (rd l1 x5_1)) = false := beq_eq_false_iff_ne.mpr c13
                              have c13b1 : ((rd l1 x6_3) != (rd l1 x5_1)) = true := bne_iff_ne.mpr c13
                              have H' := Aside0.mk H
                              clear H
                              have p137 : 0 ≤ (x6_3 : Int) := of_decide_eq_true (by first | (with_reducible assumption) | assumption)
                              have q137 : x6_3 < (l1.length : Int) := of_decide_eq_true (by first | (with_reducible assumption) | assumption)
                              obtain ⟨ad137, e137, hx137_0⟩ := Kd.at_int HR1.out x6_3 p137 q137
                              cases e137
                              replace p137 := eq_true p137
                              replace q137 := eq_true q137
                              have p138 : 0 ≤ (x5_1 : Int) := of_decide_eq_true (by first | (with_reducible assumption) | assumption)
                              have q138 : x5_1 < (l1.length : Int) := of_decide_eq_true (by first | (with_reducible assumption) | assumption)
                              obtain ⟨ad138, e138, hx138_0⟩ := Kd.at_int HR1.out x5_1 p138 q138
                              obtain rfl : ad137 = ad138 := (by injection e138)
                              replace p138 := eq_true p138
                              replace q138 := eq_true q138
                              go_wp2
                              repeat (go_quiet (fail); try go_wp2)
                              go_roundg k3
                              case measure => have := HK1.out; have := HJ3.out; have := HK3.out; omega
                              case rel => exact ⟨(wrap64 (x6_3 + 1)), (by first | rfl | (simp; done) | (simp [*]; done)), H', ⟨by have := HK1.out; have := HJ3.out; have := HK3.out; omega⟩, by repeat (first | exact Drawn0.refl _ | apply Drawn0.step)⟩
                          · rw [if_neg c12] at H
                            exact absurd H (by simp)
                        · rw [if_neg c11] at H
                          exact absurd H (by simp)
                      · rw [if_neg c10] at H
                        exact absurd H (by simp)
                    · rw [if_neg c9] at H
                      exact absurd H (by simp)
                  · rw [if_neg c8] at H
                    have c8b0 : decide (x6_3 < x5_1) = false := decide_eq_false c8
                    clear c8
                    have H' := Aside0.mk H
                    clear H
                    go_wp2
                    repeat (go_quiet (fail); try go_wp2)
                    go_roundg k3
                    case measure => have := HK1.out; have := HJ3.out; have := HK3.out; omega
                    case rel => exact ⟨(wrap64 (x5_1 + 1)), (by first | rfl | (simp; done) | (simp [*]; done)), H', ⟨by have := HK1.out; have := HJ3.out; have := HK3.out; omega⟩, by repeat (first | exact Drawn0.refl _ | apply Drawn0.step)⟩
      · rw [if_neg c3] at H
        have c3b0 : decide (x5_1 < (l1.length : Int)) = false := decide_eq_false c3
        clear c3
        obtain rfl := Option.some.inj H
        go_wp2
        repeat (go_quiet (fail); try go_wp2)
        go_ret
        exact ⟨by first | rfl | (simp; done) | (simp [*]; done), by repeat (first | exact Drawn0.refl _ | apply Drawn0.step)⟩

/-! ### haulierlaw34_DrawAll: function 4 (typed by hand) -/
open Go.Proofs.Ytabhikacghkcgaa.Ints Go.Proofs.Ytabhikacghkcgaa.Draw1 Go.Proofs.Ytabhikacghkcgaa.Draw2 Go.Proofs.Ytabhikacghkcgaa.Draw3 Go.Proofs.Ytabhikacghkcgaa.Draw6 Go.Proofs.Ytabhikacghkcgaa.Draw7 Go.Proofs.Ytabhikacghkcgaa.Draw8
theorem haulierlaw34_DrawAll.drw {w w1 : World} (h : ∃ n, w1 = w.drewN n) : Below w.heap.size w w1 := by
  obtain ⟨n, rfl⟩ := h
  exact pw_below_drewN (Below.refl _ _) n
set_option maxHeartbeats 8000000 in
set_option maxRecDepth 100000 in
theorem haulierlaw34_DrawAll.wa (a0 : Int) (A1 : Option Addr) (c1 : Nat) (l1 : List Int) (A2 : Option Addr) (c2 : Nat) (l2 : List Int) (w : World) (hr1 : Kd.C (Kd.int .i64) w A1 l1.length l1) (hc1 : l1.length ≤ c1) (hr2 : Kd.C (Kd.int .i64) w A2 l2.length l2) (hc2 : l2.length ≤ c2) (h : 200 < l1.length ∨ (¬ 200 < l1.length ∧ 200 < l2.length)) : Calls Try.prog 4 #[.int .i64 a0, .slice A1 l1.length c1, .slice A2 l2.length c2] w fun e w' => e = .returned (.bool true) ∧ Below w.heap.size w w' := by
  have HB := Aside0.mk (Below.refl w.heap.size w)
  clear hr1 hc1 hr2 hc2
  rcases h with h1 | ⟨h1, h2⟩
  · have g1 : ((200 : Int) < (l1.length : Int)) = True := eq_true (by omega)
    have g2 : ((l1.length : Int) > 200) = True := eq_true (by omega)
    clear h1
    go_enter Try.func4, Try.ntmps4
    go_wp2_with ((go_at_call 5; (with_reducible refine (Go.Proofs.Ytabhikacghkcgaa.Draw7.alive_ _).mono ?_); rintro e wv ⟨rfl, hb⟩; replace HB := Aside0.mk (below_step HB.out hb); clear hb))
    first | go_ret | go_ret2
    exact ⟨by first | rfl | simp, HB.out⟩
  · have g1 : ((200 : Int) < (l1.length : Int)) = False := eq_false (by omega)
    have g2 : ((l1.length : Int) > 200) = False := eq_false (by omega)
    have g3 : ((200 : Int) < (l2.length : Int)) = True := eq_true (by omega)
    have g4 : ((l2.length : Int) > 200) = True := eq_true (by omega)
    clear h1 h2
    go_enter Try.func4, Try.ntmps4
    go_wp2_with ((go_at_call 5; (with_reducible refine (Go.Proofs.Ytabhikacghkcgaa.Draw7.alive_ _).mono ?_); rintro e wv ⟨rfl, hb⟩; replace HB := Aside0.mk (below_step HB.out hb); clear hb))
    first | go_ret | go_ret2
    exact ⟨by first | rfl | simp, HB.out⟩
set_option maxHeartbeats 8000000 in
set_option maxRecDepth 100000 in
theorem haulierlaw34_DrawAll.wb (a0 : Int) (A1 : Option Addr) (c1 : Nat) (l1 : List Int) (A2 : Option Addr) (c2 : Nat) (l2 : List Int) (w : World) (hr1 : Kd.C (Kd.int .i64) w A1 l1.length l1) (hc1 : l1.length ≤ c1) (hr2 : Kd.C (Kd.int .i64) w A2 l2.length l2) (hc2 : l2.length ≤ c2) (h1 : ¬ 200 < l1.length) (h2 : ¬ 200 < l2.length) (hld : leadL a0 l1 [] [] = ([], false)) : Calls Try.prog 4 #[.int .i64 a0, .slice A1 l1.length c1, .slice A2 l2.length c2] w fun e w' => e = .returned (.bool true) ∧ Below w.heap.size w w' := by
  have HB := Aside0.mk (Below.refl w.heap.size w)
  have g1 : ((200 : Int) < (l1.length : Int)) = False := eq_false (by omega)
  have g2 : ((l1.length : Int) > 200) = False := eq_false (by omega)
  have g3 : ((200 : Int) < (l2.length : Int)) = False := eq_false (by omega)
  have g4 : ((l2.length : Int) > 200) = False := eq_false (by omega)
  have HR1 := Aside0.mk hr1
  have HC1 := Aside0.mk hc1
  have HR2 := Aside0.mk hr2
  have HC2 := Aside0.mk hc2
  have HL1 := Aside0.mk (show l1.length ≤ 200 by omega)
  have HL2 := Aside0.mk (show l2.length ≤ 200 by omega)
  have HLD := Aside0.mk hld
  clear hr1 hc1 hr2 hc2 h1 h2 hld
  go_enter Try.func4, Try.ntmps4
  go_wp2_with (first | (go_at_call 13; (with_reducible refine (lead2 A1 c1 l1 a0 _ (Kd.C_below HR1.out HB.out) (by have := HL1.out; omega) [] false HLD.out).mono ?_); rintro e wv ⟨v0, rfl, ho, hb⟩; obtain ⟨A3, c3, hv⟩ := Kd.R_slice ho; subst hv; have HO := Aside0.mk ho; replace HB := Aside0.mk (below_step HB.out hb); clear ho hb) | (go_at_call 5; (with_reducible refine (Go.Proofs.Ytabhikacghkcgaa.Draw7.alive_ _).mono ?_); rintro e wv ⟨rfl, hb⟩; replace HB := Aside0.mk (below_step HB.out hb); clear hb))
  first | go_ret | go_ret2
  exact ⟨by first | rfl | simp, HB.out⟩
set_option maxHeartbeats 8000000 in
set_option maxRecDepth 100000 in
theorem haulierlaw34_DrawAll.wc (a0 : Int) (A1 : Option Addr) (c1 : Nat) (l1 : List Int) (A2 : Option Addr) (c2 : Nat) (l2 : List Int) (w : World) (hr1 : Kd.C (Kd.int .i64) w A1 l1.length l1) (hc1 : l1.length ≤ c1) (hr2 : Kd.C (Kd.int .i64) w A2 l2.length l2) (hc2 : l2.length ≤ c2) (h1 : ¬ 200 < l1.length) (h2 : ¬ 200 < l2.length) (ld : List Int) (hld : leadL a0 l1 [] [] = (ld, true)) (hll : ld.length ≤ 200) (pa : List Int) (pat : Nat) (hpk : pickS (ld ++ l2) 0 a0 (l1.length : Int) = (pa, false, pat)) (hn : a0 < 0) (h0 : l1.length = 0) : Calls Try.prog 4 #[.int .i64 a0, .slice A1 l1.length c1, .slice A2 l2.length c2] w fun e w' => e = .returned (.bool true) ∧ Below w.heap.size w w' := by
  have HB := Aside0.mk (Below.refl w.heap.size w)
  have g1 : ((200 : Int) < (l1.length : Int)) = False := eq_false (by omega)
  have g2 : ((l1.length : Int) > 200) = False := eq_false (by omega)
  have g3 : ((200 : Int) < (l2.length : Int)) = False := eq_false (by omega)
  have g4 : ((l2.length : Int) > 200) = False := eq_false (by omega)
  have HR1 := Aside0.mk hr1
  have HC1 := Aside0.mk hc1
  have HR2 := Aside0.mk hr2
  have HC2 := Aside0.mk hc2
  have HL1 := Aside0.mk (show l1.length ≤ 200 by omega)
  have HL2 := Aside0.mk (show l2.length ≤ 200 by omega)
  have HLD := Aside0.mk hld
  have HLL := Aside0.mk hll
  have HPK := Aside0.mk hpk
  have hn1 := eq_true hn
  have g5 : ((l1.length : Int) = 0) = True := eq_true (by omega)
  have g6 : ((l1.length : Int) == 0) = true := beq_iff_eq.mpr (by omega)
  clear hr1 hc1 hr2 hc2 h1 h2 hld hll hpk hn h0
  go_enter Try.func4, Try.ntmps4
  go_wp2_with (first | (go_at_call 13; (with_reducible refine (lead2 A1 c1 l1 a0 _ (Kd.C_below HR1.out HB.out) (by have := HL1.out; omega) ld true HLD.out).mono ?_); rintro e wv ⟨v0, rfl, ho, hb⟩; obtain ⟨A3, c3, hv⟩ := Kd.R_slice ho; subst hv; have HO := Aside0.mk ho; replace HB := Aside0.mk (below_step HB.out hb); clear ho hb) | ((with_reducible refine gate_dst (N := 35) rfl ?_); refine lit ?hg (N := 35) ?hd (cs := #[]) (e := 3) (n := 0) ?hr ?_; (case hd => rfl); (case hg => rfl); (case hr => first | (go_simp; done) | (go_simp; rfl)); intro gl wv hgl hl hb; replace HO := Aside0.mk (Kd.R_below HO.out hb); have H5 := Aside0.mk (own_empty w.heap.size hl (by rw [hgl]; exact below_size HB.out)); replace HB := Aside0.mk (below_step HB.out hb); clear hgl hl hb) | ((with_reducible refine gate_builtin (b := .append) (xs := #[.tmp 35, .tmp 36]) rfl ?_); at_builtin; refine appR w.heap.size rfl (.tmp 35) (.tmp 36) rfl _ [] ld A3 ld.length c3 (fun _ => True) rfl rfl H5.out (Kd.R_reads' HO.out).2.2 (fun _ _ => trivial) (below_size HB.out) (by have := HLL.out; simp; omega) ?_; intro v5 w5 ho hg hat; replace HB := Aside0.mk (HB.out.grown hg (below_size HB.out) (Kd.R_base H5.out)); rw [List.nil_append] at ho; have H6 := Aside0.mk ho; clear ho hg hat HO H5) | ((with_reducible refine gate_builtin (b := .append) (xs := #[.tmp 37, .tmp 38]) rfl ?_); at_builtin; refine appR w.heap.size rfl (.tmp 37) (.tmp 38) rfl v5 ld l2 A2 l2.length c2 (fun _ => True) rfl rfl H6.out (Kd.C_below HR2.out HB.out) (fun _ _ => trivial) (below_size HB.out) (by have := HLL.out; have := HL2.out; omega) ?_; intro v6 w6 ho hg hat; replace HB := Aside0.mk (HB.out.grown hg (below_size HB.out) (Kd.R_base H6.out)); obtain ⟨A6, c6, hv⟩ := Kd.R_slice ho; subst hv; have H7 := Aside0.mk ho; clear ho hg hat H6) | (go_at_call 6; (with_reducible refine (new2 A6 c6 (ld ++ l2) _ _ (Kd.R_reads' H7.out).2.2 (by have := HLL.out; have := HL2.out; rw [List.length_append]; omega) (by first | rfl | exact (List.length_append).symm)).mono ?_); rintro e wv ⟨g, A8, c8, rfl, hd, hb⟩; have HGB := Aside0.mk (Nat.le_trans (below_size HB.out) hd.2.1); have HD := Aside0.mk hd; replace HB := Aside0.mk (below_step HB.out hb); clear hd hb H7) | (go_at_call 7; (with_reducible refine (pick2 a0 (l1.length : Int) HD.out (Nat.le_refl _) (.inl (by have := HL1.out; omega)) pa false pat HPK.out).mono ?_); rintro e wv ⟨v9, rfl, ho, hd, hg⟩; replace HB := Aside0.mk (below_g HB.out hg HGB.out); replace HD := Aside0.mk hd; obtain ⟨A9, c9, hv⟩ := Kd.R_slice ho; subst hv; have H9 := Aside0.mk ho; clear ho hd hg) | (go_at_call 5; (with_reducible refine (Go.Proofs.Ytabhikacghkcgaa.Draw7.alive_ _).mono ?_); rintro e wv ⟨rfl, hb⟩; replace HB := Aside0.mk (below_step HB.out hb); clear hb))
  first | go_ret | go_ret2
  exact ⟨by first | rfl | simp, HB.out⟩
set_option maxHeartbeats 8000000 in
set_option maxRecDepth 100000 in
theorem haulierlaw34_DrawAll.wd (k : Nat) (a0 : Int) (A1 : Option Addr) (c1 : Nat) (l1 : List Int) (A2 : Option Addr) (c2 : Nat) (l2 : List Int) (w : World) (hr1 : Kd.C (Kd.int .i64) w A1 l1.length l1) (hc1 : l1.length ≤ c1) (hr2 : Kd.C (Kd.int .i64) w A2 l2.length l2) (hc2 : l2.length ≤ c2) (h1 : ¬ 200 < l1.length) (h2 : ¬ 200 < l2.length) (ld : List Int) (hld : leadL a0 l1 [] [] = (ld, true)) (hll : ld.length ≤ 200) (pa : List Int) (pat : Nat) (hpk : pickS (ld ++ l2) 0 a0 (l1.length : Int) = (pa, true, pat)) (hn : ¬ a0 < 0) (hlf : (ld ++ l2).length - pat = l2.length) (hs : haulierref07_Same.f k pa l1 = some true) (hu : haulierref34_Unlike.f k a0 pa = some true) : Calls Try.prog 4 #[.int .i64 a0, .slice A1 l1.length c1, .slice A2 l2.length c2] w fun e w' => e = .returned (.bool true) ∧ Below w.heap.size w w' := by
  have HB := Aside0.mk (Below.refl w.heap.size w)
  have g1 : ((200 : Int) < (l1.length : Int)) = False := eq_false (by omega)
  have g2 : ((l1.length : Int) > 200) = False := eq_false (by omega)
  have g3 : ((200 : Int) < (l2.length : Int)) = False := eq_false (by omega)
  have g4 : ((l2.length : Int) > 200) = False := eq_false (by omega)
  have HR1 := Aside0.mk hr1
  have HC1 := Aside0.mk hc1
  have HR2 := Aside0.mk hr2
  have HC2 := Aside0.mk hc2
  have HL1 := Aside0.mk (show l1.length ≤ 200 by omega)
  have HL2 := Aside0.mk (show l2.length ≤ 200 by omega)
  have HLD := Aside0.mk hld
  have HLL := Aside0.mk hll
  have HPK := Aside0.mk hpk
  have hn1 := eq_false hn
  have HLF := Aside0.mk hlf
  have HSM := Aside0.mk hs
  have HUN := Aside0.mk hu
  have e1 : ((l2.length : Int) == (l2.length : Int)) = true := beq_self_eq_true _
  clear hr1 hc1 hr2 hc2 h1 h2 hld hll hpk hn hlf hs hu
  go_enter Try.func4, Try.ntmps4
  go_wp2_with (first | (go_at_call 13; (with_reducible refine (lead2 A1 c1 l1 a0 _ (Kd.C_below HR1.out HB.out) (by have := HL1.out; omega) ld true HLD.out).mono ?_); rintro e wv ⟨v0, rfl, ho, hb⟩; obtain ⟨A3, c3, hv⟩ := Kd.R_slice ho; subst hv; have HO := Aside0.mk ho; replace HB := Aside0.mk (below_step HB.out hb); clear ho hb) | ((with_reducible refine gate_dst (N := 35) rfl ?_); refine lit ?hg (N := 35) ?hd (cs := #[]) (e := 3) (n := 0) ?hr ?_; (case hd => rfl); (case hg => rfl); (case hr => first | (go_simp; done) | (go_simp; rfl)); intro gl wv hgl hl hb; replace HO := Aside0.mk (Kd.R_below HO.out hb); have H5 := Aside0.mk (own_empty w.heap.size hl (by rw [hgl]; exact below_size HB.out)); replace HB := Aside0.mk (below_step HB.out hb); clear hgl hl hb) | ((with_reducible refine gate_builtin (b := .append) (xs := #[.tmp 35, .tmp 36]) rfl ?_); at_builtin; refine appR w.heap.size rfl (.tmp 35) (.tmp 36) rfl _ [] ld A3 ld.length c3 (fun _ => True) rfl rfl H5.out (Kd.R_reads' HO.out).2.2 (fun _ _ => trivial) (below_size HB.out) (by have := HLL.out; simp; omega) ?_; intro v5 w5 ho hg hat; replace HB := Aside0.mk (HB.out.grown hg (below_size HB.out) (Kd.R_base H5.out)); rw [List.nil_append] at ho; have H6 := Aside0.mk ho; clear ho hg hat HO H5) | ((with_reducible refine gate_builtin (b := .append) (xs := #[.tmp 37, .tmp 38]) rfl ?_); at_builtin; refine appR w.heap.size rfl (.tmp 37) (.tmp 38) rfl v5 ld l2 A2 l2.length c2 (fun _ => True) rfl rfl H6.out (Kd.C_below HR2.out HB.out) (fun _ _ => trivial) (below_size HB.out) (by have := HLL.out; have := HL2.out; omega) ?_; intro v6 w6 ho hg hat; replace HB := Aside0.mk (HB.out.grown hg (below_size HB.out) (Kd.R_base H6.out)); obtain ⟨A6, c6, hv⟩ := Kd.R_slice ho; subst hv; have H7 := Aside0.mk ho; clear ho hg hat H6) | (go_at_call 6; (with_reducible refine (new2 A6 c6 (ld ++ l2) _ _ (Kd.R_reads' H7.out).2.2 (by have := HLL.out; have := HL2.out; rw [List.length_append]; omega) (by first | rfl | exact (List.length_append).symm)).mono ?_); rintro e wv ⟨g, A8, c8, rfl, hd, hb⟩; have HGB := Aside0.mk (Nat.le_trans (below_size HB.out) hd.2.1); have HD := Aside0.mk hd; replace HB := Aside0.mk (below_step HB.out hb); clear hd hb H7) | (go_at_call 7; (with_reducible refine (pick2 a0 (l1.length : Int) HD.out (Nat.le_refl _) (.inl (by have := HL1.out; omega)) pa true pat HPK.out).mono ?_); rintro e wv ⟨v9, rfl, ho, hd, hg⟩; replace HB := Aside0.mk (below_g HB.out hg HGB.out); replace HD := Aside0.mk hd; obtain ⟨A9, c9, hv⟩ := Kd.R_slice ho; subst hv; have H9 := Aside0.mk ho; clear ho hd hg) | (go_at_call 9; (with_reducible refine (haulierref07_Same.calls k A9 c9 pa A1 c1 l1 true _ (Kd.R_reads' H9.out).2.2 (Kd.R_reads' H9.out).2.1 (Kd.C_below HR1.out HB.out) HC1.out HSM.out).mono ?_); rintro e wv ⟨rfl, hw⟩; have hb := hw.below; clear hw; replace HB := Aside0.mk (below_step HB.out hb); replace HD := Aside0.mk (HD.out.below hb); replace H9 := Aside0.mk (Kd.R_below H9.out hb); clear hb) | (go_at_call 10; (with_reducible refine (left2 HD.out l2.length HLF.out).mono ?_); rintro e wv ⟨rfl, hw⟩; have hb := haulierlaw34_DrawAll.drw hw; clear hw; replace HB := Aside0.mk (below_step HB.out hb); replace H9 := Aside0.mk (Kd.R_below H9.out hb); clear hb HD) | (go_at_call 14; (with_reducible refine (haulierref34_Unlike.calls k a0 A9 c9 pa true _ (Kd.R_reads' H9.out).2.2 (Kd.R_reads' H9.out).2.1 HUN.out).mono ?_); rintro e wv ⟨rfl, hw⟩; have hb := hw.below; clear hw; replace HB := Aside0.mk (below_step HB.out hb); clear hb) | (go_at_call 5; (with_reducible refine (Go.Proofs.Ytabhikacghkcgaa.Draw7.alive_ _).mono ?_); rintro e wv ⟨rfl, hb⟩; replace HB := Aside0.mk (below_step HB.out hb); clear hb))
  first | go_ret | go_ret2
  exact ⟨by first | rfl | simp, HB.out⟩
def haulierlaw34_DrawAll.f (k : Nat) (a0 : Int) (l1 l2 : List Int) : Option Bool := if 200 < l1.length then some true else if 200 < l2.length then some true else
  if (leadL a0 l1 [] []).2 = false then (if (leadL a0 l1 [] []).1 = [] then some true else none) else
  if a0 < 0 then (if (pickS ((leadL a0 l1 [] []).1 ++ l2) 0 a0 (l1.length : Int)).2.1 = false ∧ l1.length = 0 then some true else none) else
  if (pickS ((leadL a0 l1 [] []).1 ++ l2) 0 a0 (l1.length : Int)).2.1 = true ∧ ((leadL a0 l1 [] []).1 ++ l2).length - (pickS ((leadL a0 l1 [] []).1 ++ l2) 0 a0 (l1.length : Int)).2.2 = l2.length then
    (haulierref07_Same.f k (pickS ((leadL a0 l1 [] []).1 ++ l2) 0 a0 (l1.length : Int)).1 l1).bind fun s => (haulierref34_Unlike.f k a0 (pickS ((leadL a0 l1 [] []).1 ++ l2) 0 a0 (l1.length : Int)).1).bind fun u => if s = true ∧ u = true then some true else none
  else none
theorem haulierlaw34_DrawAll.mono : ∀ a0 l1 l2 k, LeO (haulierlaw34_DrawAll.f k a0 l1 l2) (haulierlaw34_DrawAll.f (k + 1) a0 l1 l2) := by
  intro a0 l1 l2 k
  unfold haulierlaw34_DrawAll.f
  exact LeO.ite (LeO.refl _) (LeO.ite (LeO.refl _) (LeO.ite (LeO.refl _) (LeO.ite (LeO.refl _) (LeO.ite (LeO.bind (haulierref07_Same.mono _ _ _) (fun _ => LeO.bind (haulierref34_Unlike.mono _ _ _) (fun _ => LeO.refl _))) (LeO.refl _)))))
theorem haulierlaw34_DrawAll.calls (k : Nat) (a0 : Int) (A1 : Option Addr) (c1 : Nat) (l1 : List Int) (A2 : Option Addr) (c2 : Nat) (l2 : List Int) (r : Bool) (w : World) (hr1 : Kd.C (Kd.int .i64) w A1 l1.length l1) (hc1 : l1.length ≤ c1) (hr2 : Kd.C (Kd.int .i64) w A2 l2.length l2) (hc2 : l2.length ≤ c2) (h : haulierlaw34_DrawAll.f k a0 l1 l2 = some r) : Calls Try.prog 4 #[.int .i64 a0, .slice A1 l1.length c1, .slice A2 l2.length c2] w fun e w' => e = .returned (.bool r) ∧ Below w.heap.size w w' := by
  unfold haulierlaw34_DrawAll.f at h
  by_cases h1 : 200 < l1.length
  · rw [if_pos h1, Option.some.injEq] at h
    subst h
    exact haulierlaw34_DrawAll.wa a0 A1 c1 l1 A2 c2 l2 w hr1 hc1 hr2 hc2 (.inl h1)
  rw [if_neg h1] at h
  by_cases h2 : 200 < l2.length
  · rw [if_pos h2, Option.some.injEq] at h
    subst h
    exact haulierlaw34_DrawAll.wa a0 A1 c1 l1 A2 c2 l2 w hr1 hc1 hr2 hc2 (.inr ⟨h1, h2⟩)
  rw [if_neg h2] at h
  have hlen := leadL_len a0 l1 [] []
  obtain ⟨ld, b, hld⟩ : ∃ ld b, leadL a0 l1 [] [] = (ld, b) := ⟨_, _, rfl⟩
  rw [hld] at h hlen
  simp only [List.length_nil, Nat.zero_add] at hlen h
  cases b with
  | false =>
    rw [if_pos rfl] at h
    by_cases he : ld = []
    · rw [if_pos he, Option.some.injEq] at h
      subst h
      subst he
      exact haulierlaw34_DrawAll.wb a0 A1 c1 l1 A2 c2 l2 w hr1 hc1 hr2 hc2 h1 h2 hld
    · rw [if_neg he] at h
      exact absurd h (by simp)
  | true =>
    rw [if_neg (by simp)] at h
    obtain ⟨pa, ok, pat, hpk⟩ : ∃ pa ok pat, pickS (ld ++ l2) 0 a0 (l1.length : Int) = (pa, ok, pat) := ⟨_, _, _, rfl⟩
    rw [hpk] at h
    dsimp only at h
    by_cases hn : a0 < 0
    · rw [if_pos hn] at h
      by_cases hc : ok = false ∧ l1.length = 0
      · rw [if_pos hc, Option.some.injEq] at h
        subst h
        obtain ⟨rfl, h0⟩ := hc
        exact haulierlaw34_DrawAll.wc a0 A1 c1 l1 A2 c2 l2 w hr1 hc1 hr2 hc2 h1 h2 ld hld (by omega) pa pat hpk hn h0
      · rw [if_neg hc] at h
        exact absurd h (by simp)
    · rw [if_neg hn] at h
      by_cases hc : ok = true ∧ (ld ++ l2).length - pat = l2.length
      · rw [if_pos hc] at h
        obtain ⟨rfl, hlf⟩ := hc
        obtain ⟨s, hs, h⟩ := Option.bind_eq_some_iff.mp h
        obtain ⟨u, hu, h⟩ := Option.bind_eq_some_iff.mp h
        by_cases hsu : s = true ∧ u = true
        · rw [if_pos hsu, Option.some.injEq] at h
          subst h
          obtain ⟨rfl, rfl⟩ := hsu
          exact haulierlaw34_DrawAll.wd k a0 A1 c1 l1 A2 c2 l2 w hr1 hc1 hr2 hc2 h1 h2 ld hld (by omega) pa pat hpk hn hlf hs hu
        · rw [if_neg hsu] at h
          exact absurd h (by simp)
      · rw [if_neg hc] at h
        exact absurd h (by simp)


/-- THE ONE PURE STATEMENT of haulierlaw34_DrawAll. -/
def haulierlaw34_DrawAll.Pure : Prop := ∀ (a0 : Int) (l1 : List Int) (l2 : List Int), (Lit.int .i64 a0).wf = true → l1.length ≤ maxLen → l1.length * 8 ≤ 140737488351232 → (∀ x ∈ l1, (Lit.int .i64 x).wf = true) → l2.length ≤ maxLen → l2.length * 8 ≤ 140737488351232 → (∀ x ∈ l2, (Lit.int .i64 x).wf = true) → ∃ k, haulierlaw34_DrawAll.f k a0 l1 l2 = some true
end Go.Proofs.Ytabhikacghkcgaa.MDrawAll
