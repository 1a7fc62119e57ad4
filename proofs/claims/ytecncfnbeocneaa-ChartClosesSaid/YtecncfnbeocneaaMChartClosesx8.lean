/- Written by a program of this session: Go functions that the law ChartCloses reaches, as Lean functions, each with a proof that the Go code comes to just what it says; every input of the kinds that a contract names. -/
import Derived.Test.YtecncfnbeocneaaMChartClosesx0
namespace Go.Proofs.Ytecncfnbeocneaa.MChartCloses
open Go.RowKit Go.Proofs.YtecncfnbeocneaaW.PrintWords Go.Proofs.YtecncfnbeocneaaW.PrintLast Go.Proofs.YtecncfnbeocneaaW.PrintMore
attribute [local go_sem] max2_int min2_int max_two min_two max_three min_three max_four min_four   -- for this text's walks alone
set_option linter.unusedVariables false
set_option linter.unusedSimpArgs false
set_option linter.unnecessarySimpa false

/-! ### haulierref27_Far: function 27 -/
mutual
def haulierref27_Far.l0 : Nat → List (List Int) → Int → List (List Int) → Int → Option ((List (List Int)))
  | 0, _, _, _, _ => none
  | k + 1, x0, x1, x5, x6 => if x6 < (x0.length : Int) then (haulierref27_Far.l1 k x0 x1 x5 x6 ([] : List Int) 0) else (some x5)
def haulierref27_Far.l1 : Nat → List (List Int) → Int → List (List Int) → Int → List Int → Int → Option ((List (List Int)))
  | 0, _, _, _, _, _, _ => none
  | k + 1, x0, x1, x5, x6, x7, x8 => if x8 < (x0.length : Int) then (if x6 = 0 then (haulierref27_Far.j2 k x0 x1 x5 x6 x7 x8 (-1) (x8 == x1)) else (haulierref27_Far.j2 k x0 x1 x5 x6 x7 x8 (-1) false)) else (if x5.length < 5864062014805 then (haulierref27_Far.l0 k x0 x1 (x5 ++ [x7]) (wrap64 (x6 + 1))) else (none))
def haulierref27_Far.j2 : Nat → List (List Int) → Int → List (List Int) → Int → List Int → Int → Int → Bool → Option ((List (List Int)))
  | 0, _, _, _, _, _, _, _, _ => none
  | k + 1, x0, x1, x5, x6, x7, x8, x9, x30 => if x30 = true then (haulierref27_Far.j3 k x0 x1 x5 x6 x7 x8 0) else (haulierref27_Far.j3 k x0 x1 x5 x6 x7 x8 x9)
def haulierref27_Far.j3 : Nat → List (List Int) → Int → List (List Int) → Int → List Int → Int → Int → Option ((List (List Int)))
  | 0, _, _, _, _, _, _, _ => none
  | k + 1, x0, x1, x5, x6, x7, x8, x9 => haulierref27_Far.l2 k x0 x1 x5 x6 x7 x8 x9 0
def haulierref27_Far.l2 : Nat → List (List Int) → Int → List (List Int) → Int → List Int → Int → Int → Int → Option ((List (List Int)))
  | 0, _, _, _, _, _, _, _, _ => none
  | k + 1, x0, x1, x5, x6, x7, x8, x9, x10 => if x6 > 0 then (haulierref27_Far.j5 k x0 x1 x5 x6 x7 x8 x9 x10 (decide (x10 < (x0.length : Int)))) else (haulierref27_Far.j5 k x0 x1 x5 x6 x7 x8 x9 x10 false)
def haulierref27_Far.j5 : Nat → List (List Int) → Int → List (List Int) → Int → List Int → Int → Int → Int → Bool → Option ((List (List Int)))
  | 0, _, _, _, _, _, _, _, _, _ => none
  | k + 1, x0, x1, x5, x6, x7, x8, x9, x10, x38 => if x38 = true then (if 0 ≤ (wrap64 (x6 - 1)) then (if (wrap64 (x6 - 1)) < (x5.length : Int) then (if 0 ≤ x10 then (if x10 < ((rd_L1 x5 (wrap64 (x6 - 1))).length : Int) then (if (rd (rd_L1 x5 (wrap64 (x6 - 1))) x10) ≥ 0 then (if x9 < 0 then (if 0 ≤ x8 then (if x8 < (x0.length : Int) then (if x10 < ((rd_L1 x0 x8).length : Int) then (haulierref27_Far.l2 k x0 x1 x5 x6 x7 x8 (wrap64 ((rd (rd_L1 x0 x8) x10) + (rd (rd_L1 x5 (wrap64 (x6 - 1))) x10))) (wrap64 (x10 + 1))) else (none)) else (none)) else (none)) else (if 0 ≤ x8 then (if x8 < (x0.length : Int) then (if x10 < ((rd_L1 x0 x8).length : Int) then (if (wrap64 ((rd (rd_L1 x0 x8) x10) + (rd (rd_L1 x5 (wrap64 (x6 - 1))) x10))) < x9 then (haulierref27_Far.l2 k x0 x1 x5 x6 x7 x8 (wrap64 ((rd (rd_L1 x0 x8) x10) + (rd (rd_L1 x5 (wrap64 (x6 - 1))) x10))) (wrap64 (x10 + 1))) else (haulierref27_Far.l2 k x0 x1 x5 x6 x7 x8 x9 (wrap64 (x10 + 1)))) else (none)) else (none)) else (none))) else (haulierref27_Far.l2 k x0 x1 x5 x6 x7 x8 x9 (wrap64 (x10 + 1)))) else (none)) else (none)) else (none)) else (none)) else (if x7.length < 17592186044416 then (haulierref27_Far.l1 k x0 x1 x5 x6 (x7 ++ [x9]) (wrap64 (x8 + 1))) else (none))
end
def haulierref27_Far.f (k : Nat) (l0 : List (List Int)) (a1 : Int) : Option ((List (List Int))) := haulierref27_Far.l0 k l0 a1 ([] : List (List Int)) 0
theorem haulierref27_Far.mono_l : ∀ k, (∀ y0 y1 y2 y3, LeO (haulierref27_Far.l0 k y0 y1 y2 y3) (haulierref27_Far.l0 (k + 1) y0 y1 y2 y3)) ∧ (∀ y0 y1 y2 y3 y4 y5, LeO (haulierref27_Far.l1 k y0 y1 y2 y3 y4 y5) (haulierref27_Far.l1 (k + 1) y0 y1 y2 y3 y4 y5)) ∧ (∀ y0 y1 y2 y3 y4 y5 y6 y7, LeO (haulierref27_Far.j2 k y0 y1 y2 y3 y4 y5 y6 y7) (haulierref27_Far.j2 (k + 1) y0 y1 y2 y3 y4 y5 y6 y7)) ∧ (∀ y0 y1 y2 y3 y4 y5 y6, LeO (haulierref27_Far.j3 k y0 y1 y2 y3 y4 y5 y6) (haulierref27_Far.j3 (k + 1) y0 y1 y2 y3 y4 y5 y6)) ∧ (∀ y0 y1 y2 y3 y4 y5 y6 y7, LeO (haulierref27_Far.l2 k y0 y1 y2 y3 y4 y5 y6 y7) (haulierref27_Far.l2 (k + 1) y0 y1 y2 y3 y4 y5 y6 y7)) ∧ (∀ y0 y1 y2 y3 y4 y5 y6 y7 y8, LeO (haulierref27_Far.j5 k y0 y1 y2 y3 y4 y5 y6 y7 y8) (haulierref27_Far.j5 (k + 1) y0 y1 y2 y3 y4 y5 y6 y7 y8))
  | 0 => ⟨fun _ _ _ _ r h => by simp [haulierref27_Far.l0] at h, fun _ _ _ _ _ _ r h => by simp [haulierref27_Far.l1] at h, fun _ _ _ _ _ _ _ _ r h => by simp [haulierref27_Far.j2] at h, fun _ _ _ _ _ _ _ r h => by simp [haulierref27_Far.j3] at h, fun _ _ _ _ _ _ _ _ r h => by simp [haulierref27_Far.l2] at h, fun _ _ _ _ _ _ _ _ _ r h => by simp [haulierref27_Far.j5] at h⟩
  | k + 1 => by
    obtain ⟨ih0, ih1, ih2, ih3, ih4, ih5⟩ := haulierref27_Far.mono_l k
    refine ⟨?_, ?_, ?_, ?_, ?_, ?_⟩
    · intro y0 y1 y2 y3
      unfold haulierref27_Far.l0
      repeat' first
      | (with_reducible exact ih0 _ _ _ _)
      | (with_reducible exact ih1 _ _ _ _ _ _)
      | (with_reducible exact ih2 _ _ _ _ _ _ _ _)
      | (with_reducible exact ih3 _ _ _ _ _ _ _)
      | (with_reducible exact ih4 _ _ _ _ _ _ _ _)
      | (with_reducible exact ih5 _ _ _ _ _ _ _ _ _)
      | (with_reducible exact LeO.refl _)
      | (with_reducible exact LeO.none _)
      | (with_reducible refine LeO.ite ?_ ?_)
      | (with_reducible refine LeO.bind ?_ (fun _ => ?_))
      | exact ih0 _ _ _ _
      | exact ih1 _ _ _ _ _ _
      | exact ih2 _ _ _ _ _ _ _ _
      | exact ih3 _ _ _ _ _ _ _
      | exact ih4 _ _ _ _ _ _ _ _
      | exact ih5 _ _ _ _ _ _ _ _ _
      | exact LeO.none _
      | refine LeO.ite ?_ ?_
      | refine LeO.bind ?_ (fun _ => ?_)
    · intro y0 y1 y2 y3 y4 y5
      unfold haulierref27_Far.l1
      repeat' first
      | (with_reducible exact ih0 _ _ _ _)
      | (with_reducible exact ih1 _ _ _ _ _ _)
      | (with_reducible exact ih2 _ _ _ _ _ _ _ _)
      | (with_reducible exact ih3 _ _ _ _ _ _ _)
      | (with_reducible exact ih4 _ _ _ _ _ _ _ _)
      | (with_reducible exact ih5 _ _ _ _ _ _ _ _ _)
      | (with_reducible exact LeO.refl _)
      | (with_reducible exact LeO.none _)
      | (with_reducible refine LeO.ite ?_ ?_)
      | (with_reducible refine LeO.bind ?_ (fun _ => ?_))
      | exact ih0 _ _ _ _
      | exact ih1 _ _ _ _ _ _
      | exact ih2 _ _ _ _ _ _ _ _
      | exact ih3 _ _ _ _ _ _ _
      | exact ih4 _ _ _ _ _ _ _ _
      | exact ih5 _ _ _ _ _ _ _ _ _
      | exact LeO.none _
      | refine LeO.ite ?_ ?_
      | refine LeO.bind ?_ (fun _ => ?_)
    · intro y0 y1 y2 y3 y4 y5 y6 y7
      unfold haulierref27_Far.j2
      repeat' first
      | (with_reducible exact ih0 _ _ _ _)
      | (with_reducible exact ih1 _ _ _ _ _ _)
      | (with_reducible exact ih2 _ _ _ _ _ _ _ _)
      | (with_reducible exact ih3 _ _ _ _ _ _ _)
      | (with_reducible exact ih4 _ _ _ _ _ _ _ _)
      | (with_reducible exact ih5 _ _ _ _ _ _ _ _ _)
      | (with_reducible exact LeO.refl _)
      | (with_reducible exact LeO.none _)
      | (with_reducible refine LeO.ite ?_ ?_)
      | (with_reducible refine LeO.bind ?_ (fun _ => ?_))
      | exact ih0 _ _ _ _
      | exact ih1 _ _ _ _ _ _
      | exact ih2 _ _ _ _ _ _ _ _
      | exact ih3 _ _ _ _ _ _ _
      | exact ih4 _ _ _ _ _ _ _ _
      | exact ih5 _ _ _ _ _ _ _ _ _
      | exact LeO.none _
      | refine LeO.ite ?_ ?_
      | refine LeO.bind ?_ (fun _ => ?_)
    · intro y0 y1 y2 y3 y4 y5 y6
      unfold haulierref27_Far.j3
      repeat' first
      | (with_reducible exact ih0 _ _ _ _)
      | (with_reducible exact ih1 _ _ _ _ _ _)
      | (with_reducible exact ih2 _ _ _ _ _ _ _ _)
      | (with_reducible exact ih3 _ _ _ _ _ _ _)
      | (with_reducible exact ih4 _ _ _ _ _ _ _ _)
      | (with_reducible exact ih5 _ _ _ _ _ _ _ _ _)
      | (with_reducible exact LeO.refl _)
      | (with_reducible exact LeO.none _)
      | (with_reducible refine LeO.ite ?_ ?_)
      | (with_reducible refine LeO.bind ?_ (fun _ => ?_))
      | exact ih0 _ _ _ _
      | exact ih1 _ _ _ _ _ _
      | exact ih2 _ _ _ _ _ _ _ _
      | exact ih3 _ _ _ _ _ _ _
      | exact ih4 _ _ _ _ _ _ _ _
      | exact ih5 _ _ _ _ _ _ _ _ _
      | exact LeO.none _
      | refine LeO.ite ?_ ?_
      | refine LeO.bind ?_ (fun _ => ?_)
    · intro y0 y1 y2 y3 y4 y5 y6 y7
      unfold haulierref27_Far.l2
      repeat' first
      | (with_reducible exact ih0 _ _ _ _)
      | (with_reducible exact ih1 _ _ _ _ _ _)
      | (with_reducible exact ih2 _ _ _ _ _ _ _ _)
      | (with_reducible exact ih3 _ _ _ _ _ _ _)
      | (with_reducible exact ih4 _ _ _ _ _ _ _ _)
      | (with_reducible exact ih5 _ _ _ _ _ _ _ _ _)
      | (with_reducible exact LeO.refl _)
      | (with_reducible exact LeO.none _)
      | (with_reducible refine LeO.ite ?_ ?_)
      | (with_reducible refine LeO.bind ?_ (fun _ => ?_))
      | exact ih0 _ _ _ _
      | exact ih1 _ _ _ _ _ _
      | exact ih2 _ _ _ _ _ _ _ _
      | exact ih3 _ _ _ _ _ _ _
      | exact ih4 _ _ _ _ _ _ _ _
      | exact ih5 _ _ _ _ _ _ _ _ _
      | exact LeO.none _
      | refine LeO.ite ?_ ?_
      | refine LeO.bind ?_ (fun _ => ?_)
    · intro y0 y1 y2 y3 y4 y5 y6 y7 y8
      unfold haulierref27_Far.j5
      repeat' first
      | (with_reducible exact ih0 _ _ _ _)
      | (with_reducible exact ih1 _ _ _ _ _ _)
      | (with_reducible exact ih2 _ _ _ _ _ _ _ _)
      | (with_reducible exact ih3 _ _ _ _ _ _ _)
      | (with_reducible exact ih4 _ _ _ _ _ _ _ _)
      | (with_reducible exact ih5 _ _ _ _ _ _ _ _ _)
      | (with_reducible exact LeO.refl _)
      | (with_reducible exact LeO.none _)
      | (with_reducible refine LeO.ite ?_ ?_)
      | (with_reducible refine LeO.bind ?_ (fun _ => ?_))
      | exact ih0 _ _ _ _
      | exact ih1 _ _ _ _ _ _
      | exact ih2 _ _ _ _ _ _ _ _
      | exact ih3 _ _ _ _ _ _ _
      | exact ih4 _ _ _ _ _ _ _ _
      | exact ih5 _ _ _ _ _ _ _ _ _
      | exact LeO.none _
      | refine LeO.ite ?_ ?_
      | refine LeO.bind ?_ (fun _ => ?_)
theorem haulierref27_Far.mono : ∀ a0 a1 k, LeO (haulierref27_Far.f k a0 a1) (haulierref27_Far.f (k + 1) a0 a1) := by
  intro a0 a1 k
  obtain ⟨ih0, ih1, ih2, ih3, ih4, ih5⟩ := haulierref27_Far.mono_l k
  unfold haulierref27_Far.f
  repeat' first
      | (with_reducible exact ih0 _ _ _ _)
      | (with_reducible exact ih1 _ _ _ _ _ _)
      | (with_reducible exact ih2 _ _ _ _ _ _ _ _)
      | (with_reducible exact ih3 _ _ _ _ _ _ _)
      | (with_reducible exact ih4 _ _ _ _ _ _ _ _)
      | (with_reducible exact ih5 _ _ _ _ _ _ _ _ _)
      | (with_reducible exact LeO.refl _)
      | (with_reducible exact LeO.none _)
      | (with_reducible refine LeO.ite ?_ ?_)
      | (with_reducible refine LeO.bind ?_ (fun _ => ?_))
      | exact ih0 _ _ _ _
      | exact ih1 _ _ _ _ _ _
      | exact ih2 _ _ _ _ _ _ _ _
      | exact ih3 _ _ _ _ _ _ _
      | exact ih4 _ _ _ _ _ _ _ _
      | exact ih5 _ _ _ _ _ _ _ _ _
      | exact LeO.none _
      | refine LeO.ite ?_ ?_
      | refine LeO.bind ?_ (fun _ => ?_)
set_option maxHeartbeats 8000000 in
set_option maxRecDepth 100000 in
theorem haulierref27_Far.calls (k : Nat) (A0 : Option Addr) (c0 : Nat) (l0 : List (List Int)) (a1 : Int) (r : List (List Int)) (w : World) (hr0 : Kd.C (Kd.slice 3 (Kd.int .i64)) w A0 l0.length l0) (hc0 : l0.length ≤ c0) (h : haulierref27_Far.f k l0 a1 = some r) :
    Calls Try.prog 27 #[.slice A0 l0.length c0, .int .i64 a1] w fun e w' => ∃ v0_ : Value, e = .returned (v0_) ∧ Kd.S (Kd.slice 3 (Kd.int .i64)) 23 w' w.heap.size (fun _ => True) v0_ r ∧ Below w.heap.size w w' := by
  have HR0 := Aside0.mk hr0
  have HC0 := Aside0.mk hc0
  clear hr0 hc0
  have HB := Aside0.mk (Below.refl w.heap.size w)
  have H : (haulierref27_Far.l0 k l0 a1 ([] : List (List Int)) 0) = some r := h
  clear h
  have H' := Aside0.mk H
  clear H
  go_enter Try.func27, Try.ntmps27
  go_wp2
  go_loopg [5, 6] k (fun kq v5 v6 w' => ∃ (x5_1 : List (List Int)) (x6_1 : Int), v6 = .int .i64 x6_1 ∧ Aside0 (haulierref27_Far.l0 kq l0 a1 x5_1 x6_1 = some r) ∧ Aside0 (kq ≤ k) ∧ Aside0 (Kd.S (Kd.slice 3 (Kd.int .i64)) 23 w' w.heap.size (fun _ => True) v5 x5_1) ∧ Aside0 (Below w.heap.size w w'))
  case atStart => exact ⟨(([] : List (List Int))), (0), (by first | rfl | (simp; done) | (simp [*]; done)), H', ⟨Nat.le_refl _⟩, ⟨by first | exact Kd.S_nil _ _ _ _ _ | exact Kd.N_nil _ _ _ _ _ | exact Kd.V_nil _ _ _ _ _ | exact Kd.Q_nil _ _ _ _ _ | exact Kd.R_nil _ _ _ _ _⟩, ⟨by repeat (first | (with_reducible first | exact HB.out | apply below_alloc | apply pw_below_drewN | apply below_drew1) | exact HB.out)⟩⟩
  case round =>
    clear H'
    try clear c2
    try clear p2
    obtain ⟨x5_1, x6_1, rfl, HA, HK1, HO_5, HB⟩ := hrel
    cases gk with
    | zero => exact absurd HA.out (by simp [haulierref27_Far.l0])
    | succ k1 =>
      have H := HA.out
      clear HA
      simp only [haulierref27_Far.l0] at H
      by_cases c3 : x6_1 < (l0.length : Int)
      · rw [if_pos c3] at H
        have c3b0 : decide (x6_1 < (l0.length : Int)) = true := decide_eq_true c3
        clear c3
        have H' := Aside0.mk H
        clear H
        go_wp2
        go_loopg [7, 8] k1 (fun kq v7 v8 w' => ∃ (x7_2 : List Int) (x8_2 : Int), v8 = .int .i64 x8_2 ∧ Aside0 (haulierref27_Far.l1 kq l0 a1 x5_1 x6_1 x7_2 x8_2 = some r) ∧ Aside0 (kq ≤ k1) ∧ Aside0 (Kd.S (Kd.slice 3 (Kd.int .i64)) 23 w' w.heap.size (fun k_ => some k_ ≠ (v7 : Value).ownBlock) u5 x5_1) ∧ Aside0 (Kd.R (Kd.int .i64) 3 w' w.heap.size (fun _ => True) v7 x7_2) ∧ Aside0 (Below w.heap.size w w'))
        case atStart => exact ⟨(([] : List Int)), (0), (by first | rfl | (simp; done) | (simp [*]; done)), H', ⟨Nat.le_refl _⟩, ⟨by (with_reducible repeat (first | apply Kd.S_alloc | apply Kd.S_drewN | apply Kd.S_drew)); exact Kd.S_mono HO_5.out (fun _ hk => (by simp [Value.ownBlock]))⟩, ⟨by first | exact Kd.R_nil _ _ _ _ _ | exact Kd.N_nil _ _ _ _ _ | exact Kd.V_nil _ _ _ _ _ | exact Kd.Q_nil _ _ _ _ _ | exact Kd.S_nil _ _ _ _ _⟩, ⟨by repeat (first | (with_reducible first | exact HB.out | apply below_alloc | apply pw_below_drewN | apply below_drew1) | exact HB.out)⟩⟩
        case round =>
          clear H'
          try clear c2
          try clear p2
          try clear c3
          try clear c3b0
          try clear p2
          obtain ⟨x7_2, x8_2, rfl, HA, HK2, HO_5, HO_7, HB⟩ := hrel
          cases gk with
          | zero => exact absurd HA.out (by simp [haulierref27_Far.l1])
          | succ k2 =>
            have H := HA.out
            clear HA
            simp only [haulierref27_Far.l1] at H
            by_cases c4 : x8_2 < (l0.length : Int)
            · rw [if_pos c4] at H
              have c4b0 : decide (x8_2 < (l0.length : Int)) = true := decide_eq_true c4
              clear c4
              have HC5 := Aside0.mk H
              clear H
              go_upto_region 10 with (fail)
              go_cut [30] (fun v30 wc => ∃ (kq : Nat) (x30_4 : Bool), v30 = .bool x30_4 ∧ Aside0 (haulierref27_Far.j2 kq l0 a1 x5_1 x6_1 x7_2 x8_2 (-1) x30_4 = some r) ∧ Aside0 (kq ≤ k2) ∧ Aside0 (Kd.S (Kd.slice 3 (Kd.int .i64)) 23 wc w.heap.size (fun k_ => some k_ ≠ (u7 : Value).ownBlock) u5 x5_1) ∧ Aside0 (Kd.R (Kd.int .i64) 3 wc w.heap.size (fun _ => True) u7 x7_2) ∧ Aside0 (Below w.heap.size w wc))
              case first =>
                have H := HC5.out
                clear HC5
                by_cases c6 : x6_1 = 0
                · rw [if_pos c6] at H
                  have c6b0 : (x6_1 == 0) = true := beq_iff_eq.mpr c6
                  have c6b1 : (x6_1 != 0) = false := bne_eq_false_iff_eq.mpr c6
                  clear c6
                  (first | rw [c6b0] | (simp only [i64_w, i32_w]; rw [c6b0]) | skip)
                  have H' := Aside0.mk H
                  clear H
                  go_wp2
                  go_meet
                  case rel => exact ⟨_, ((x8_2 == a1)), (by first | rfl | (simp; done) | (simp [*]; done)), H', ⟨by have := HK1.out; have := HK2.out; first | omega | exact Nat.le_refl _⟩, ⟨by (with_reducible repeat (first | apply Kd.S_alloc | apply Kd.S_drewN | apply Kd.S_drew)); exact HO_5.out⟩, ⟨by (with_reducible repeat (first | apply Kd.R_alloc | apply Kd.R_drewN | apply Kd.R_drew)); exact HO_7.out⟩, ⟨by repeat (first | (with_reducible first | exact HB.out | apply below_alloc | apply pw_below_drewN | apply below_drew1) | exact HB.out)⟩⟩
                · rw [if_neg c6] at H
                  have c6b0 : (x6_1 == 0) = false := beq_eq_false_iff_ne.mpr c6
                  have c6b1 : (x6_1 != 0) = true := bne_iff_ne.mpr c6
                  (first | rw [c6b0] | (simp only [i64_w, i32_w]; rw [c6b0]) | skip)
                  have H' := Aside0.mk H
                  clear H
                  go_wp2
                  go_meet
                  case rel => exact ⟨_, (false), (by first | rfl | (simp; done) | (simp [*]; done)), H', ⟨by have := HK1.out; have := HK2.out; first | omega | exact Nat.le_refl _⟩, ⟨by (with_reducible repeat (first | apply Kd.S_alloc | apply Kd.S_drewN | apply Kd.S_drew)); exact HO_5.out⟩, ⟨by (with_reducible repeat (first | apply Kd.R_alloc | apply Kd.R_drewN | apply Kd.R_drew)); exact HO_7.out⟩, ⟨by repeat (first | (with_reducible first | exact HB.out | apply below_alloc | apply pw_below_drewN | apply below_drew1) | exact HB.out)⟩⟩
              case rest =>
                clear HC5
                try clear c2
                try clear p2
                try clear c3
                try clear c3b0
                try clear c4
                try clear c4b0
                try clear c6
                try clear c6b0
                try clear c6b1
                try clear p2
                obtain ⟨kq, x30_4, rfl, HA, HJ4, HO_5, HO_7, HB⟩ := hcut
                cases kq with
                | zero => exact absurd HA.out (by simp [haulierref27_Far.j2])
                | succ kj4 =>
                  have H := HA.out
                  clear HA
                  simp only [haulierref27_Far.j2] at H
                  have HC7 := Aside0.mk H
                  clear H
                  go_upto_if 30 with (fail)
                  go_cut [9] (fun v9 wc => ∃ (kq : Nat) (x9_6 : Int), v9 = .int .i64 x9_6 ∧ Aside0 (haulierref27_Far.j3 kq l0 a1 x5_1 x6_1 x7_2 x8_2 x9_6 = some r) ∧ Aside0 (kq ≤ kj4) ∧ Aside0 (Kd.S (Kd.slice 3 (Kd.int .i64)) 23 wc w.heap.size (fun k_ => some k_ ≠ (u7 : Value).ownBlock) u5 x5_1) ∧ Aside0 (Kd.R (Kd.int .i64) 3 wc w.heap.size (fun _ => True) u7 x7_2) ∧ Aside0 (Below w.heap.size w wc))
                  case first =>
                    have H := HC7.out
                    clear HC7
                    by_cases c8 : x30_4 = true
                    · subst c8
                      have H1 : (haulierref27_Far.j3 kj4 l0 a1 x5_1 x6_1 x7_2 x8_2 0) = some r := by rw [if_pos rfl] at H; exact H
                      clear H
                      have H := H1
                      clear H1
                      have H' := Aside0.mk H
                      clear H
                      go_wp2
                      go_meet
                      case rel => exact ⟨_, (0), (by first | rfl | (simp; done) | (simp [*]; done)), H', ⟨by have := HK1.out; have := HK2.out; have := HJ4.out; first | omega | exact Nat.le_refl _⟩, ⟨by (with_reducible repeat (first | apply Kd.S_alloc | apply Kd.S_drewN | apply Kd.S_drew)); exact HO_5.out⟩, ⟨by (with_reducible repeat (first | apply Kd.R_alloc | apply Kd.R_drewN | apply Kd.R_drew)); exact HO_7.out⟩, ⟨by repeat (first | (with_reducible first | exact HB.out | apply below_alloc | apply pw_below_drewN | apply below_drew1) | exact HB.out)⟩⟩
                    · replace c8 := Bool.eq_false_iff.mpr c8
                      subst c8
                      have H1 : (haulierref27_Far.j3 kj4 l0 a1 x5_1 x6_1 x7_2 x8_2 (-1)) = some r := by rw [if_neg (show ¬ (false = true) by decide)] at H; exact H
                      clear H
                      have H := H1
                      clear H1
                      have H' := Aside0.mk H
                      clear H
                      go_wp2
                      go_meet
                      case rel => exact ⟨_, ((-1)), (by first | rfl | (simp; done) | (simp [*]; done)), H', ⟨by have := HK1.out; have := HK2.out; have := HJ4.out; first | omega | exact Nat.le_refl _⟩, ⟨by (with_reducible repeat (first | apply Kd.S_alloc | apply Kd.S_drewN | apply Kd.S_drew)); exact HO_5.out⟩, ⟨by (with_reducible repeat (first | apply Kd.R_alloc | apply Kd.R_drewN | apply Kd.R_drew)); exact HO_7.out⟩, ⟨by repeat (first | (with_reducible first | exact HB.out | apply below_alloc | apply pw_below_drewN | apply below_drew1) | exact HB.out)⟩⟩
                  case rest =>
                    clear HC7
                    try clear c2
                    try clear p2
                    try clear c3
                    try clear c3b0
                    try clear c4
                    try clear c4b0
                    try clear c6
                    try clear c6b0
                    try clear c6b1
                    try clear c8
                    try clear p2
                    obtain ⟨kq, x9_6, rfl, HA, HJ6, HO_5, HO_7, HB⟩ := hcut
                    cases kq with
                    | zero => exact absurd HA.out (by simp [haulierref27_Far.j3])
                    | succ kj6 =>
                      have H := HA.out
                      clear HA
                      simp only [haulierref27_Far.j3] at H
                      have H' := Aside0.mk H
                      clear H
                      go_wp2
                      go_loopg [9, 10] kj6 (fun kq v9 v10 w' => ∃ (x9_5 : Int) (x10_5 : Int), v9 = .int .i64 x9_5 ∧ v10 = .int .i64 x10_5 ∧ Aside0 (haulierref27_Far.l2 kq l0 a1 x5_1 x6_1 x7_2 x8_2 x9_5 x10_5 = some r) ∧ Aside0 (kq ≤ kj6) ∧ Aside0 (Kd.S (Kd.slice 3 (Kd.int .i64)) 23 w' w.heap.size (fun k_ => some k_ ≠ (u7 : Value).ownBlock) u5 x5_1) ∧ Aside0 (Kd.R (Kd.int .i64) 3 w' w.heap.size (fun _ => True) u7 x7_2) ∧ Aside0 (Below w.heap.size w w'))
                      case atStart => exact ⟨(x9_6), (0), (by first | rfl | (simp; done) | (simp [*]; done)), (by first | rfl | (simp; done) | (simp [*]; done)), H', ⟨Nat.le_refl _⟩, ⟨by (with_reducible repeat (first | apply Kd.S_alloc | apply Kd.S_drewN | apply Kd.S_drew)); exact HO_5.out⟩, ⟨by (with_reducible repeat (first | apply Kd.R_alloc | apply Kd.R_drewN | apply Kd.R_drew)); exact HO_7.out⟩, ⟨by repeat (first | (with_reducible first | exact HB.out | apply below_alloc | apply pw_below_drewN | apply below_drew1) | exact HB.out)⟩⟩
                      case round =>
                        clear H'
                        try clear c2
                        try clear p2
                        try clear c3
                        try clear c3b0
                        try clear c4
                        try clear c4b0
                        try clear c6
                        try clear c6b0
                        try clear c6b1
                        try clear c8
                        try clear p2
                        obtain ⟨x9_5, x10_5, rfl, rfl, HA, HK5, HO_5, HO_7, HB⟩ := hrel
                        cases gk with
                        | zero => exact absurd HA.out (by simp [haulierref27_Far.l2])
                        | succ k5 =>
                          have H := HA.out
                          clear HA
                          simp only [haulierref27_Far.l2] at H
                          have HC9 := Aside0.mk H
                          clear H
                          go_upto_region 13 with (fail)
                          go_cut [38] (fun v38 wc => ∃ (kq : Nat) (x38_8 : Bool), v38 = .bool x38_8 ∧ Aside0 (haulierref27_Far.j5 kq l0 a1 x5_1 x6_1 x7_2 x8_2 x9_5 x10_5 x38_8 = some r) ∧ Aside0 (kq ≤ k5) ∧ Aside0 (Kd.S (Kd.slice 3 (Kd.int .i64)) 23 wc w.heap.size (fun k_ => some k_ ≠ (u7 : Value).ownBlock) u5 x5_1) ∧ Aside0 (Kd.R (Kd.int .i64) 3 wc w.heap.size (fun _ => True) u7 x7_2) ∧ Aside0 (Below w.heap.size w wc))
                          case first =>
                            have H := HC9.out
                            clear HC9
                            by_cases c10 : x6_1 > 0
                            · rw [if_pos c10] at H
                              have c10b0 : decide (0 < x6_1) = true := decide_eq_true c10
                              clear c10
                              (first | rw [c10b0] | (simp only [i64_w, i32_w]; rw [c10b0]) | skip)
                              have H' := Aside0.mk H
                              clear H
                              go_wp2
                              go_meet
                              case rel => exact ⟨_, (decide (x10_5 < (l0.length : Int))), (by first | rfl | (simp; done) | (simp [*]; done)), H', ⟨by have := HK1.out; have := HK2.out; have := HJ4.out; have := HJ6.out; have := HK5.out; first | omega | exact Nat.le_refl _⟩, ⟨by (with_reducible repeat (first | apply Kd.S_alloc | apply Kd.S_drewN | apply Kd.S_drew)); exact HO_5.out⟩, ⟨by (with_reducible repeat (first | apply Kd.R_alloc | apply Kd.R_drewN | apply Kd.R_drew)); exact HO_7.out⟩, ⟨by repeat (first | (with_reducible first | exact HB.out | apply below_alloc | apply pw_below_drewN | apply below_drew1) | exact HB.out)⟩⟩
                            · rw [if_neg c10] at H
                              have c10b0 : decide (0 < x6_1) = false := decide_eq_false c10
                              clear c10
                              (first | rw [c10b0] | (simp only [i64_w, i32_w]; rw [c10b0]) | skip)
                              have H' := Aside0.mk H
                              clear H
                              go_wp2
                              go_meet
                              case rel => exact ⟨_, (false), (by first | rfl | (simp; done) | (simp [*]; done)), H', ⟨by have := HK1.out; have := HK2.out; have := HJ4.out; have := HJ6.out; have := HK5.out; first | omega | exact Nat.le_refl _⟩, ⟨by (with_reducible repeat (first | apply Kd.S_alloc | apply Kd.S_drewN | apply Kd.S_drew)); exact HO_5.out⟩, ⟨by (with_reducible repeat (first | apply Kd.R_alloc | apply Kd.R_drewN | apply Kd.R_drew)); exact HO_7.out⟩, ⟨by repeat (first | (with_reducible first | exact HB.out | apply below_alloc | apply pw_below_drewN | apply below_drew1) | exact HB.out)⟩⟩
                          case rest =>
                            clear HC9
                            try clear c1
                            try clear c2
                            try clear p2
                            try clear c3
                            try clear c3b0
                            try clear c4
                            try clear c4b0
                            try clear c6
                            try clear c6b0
                            try clear c6b1
                            try clear c8
                            try clear c10
                            try clear c10b0
                            try clear p2
                            obtain ⟨kq, x38_8, rfl, HA, HJ8, HO_5, HO_7, HB⟩ := hcut
                            cases kq with
                            | zero => exact absurd HA.out (by simp [haulierref27_Far.j5])
                            | succ kj8 =>
                              have H := HA.out
                              clear HA
                              simp only [haulierref27_Far.j5] at H
                              by_cases c11 : x38_8 = true
                              · subst c11
                                have H1 : (if 0 ≤ (wrap64 (x6_1 - 1)) then (if (wrap64 (x6_1 - 1)) < (x5_1.length : Int) then (if 0 ≤ x10_5 then (if x10_5 < ((rd_L1 x5_1 (wrap64 (x6_1 - 1))).length : Int) then (if (rd (rd_L1 x5_1 (wrap64 (x6_1 - 1))) x10_5) ≥ 0 then (if x9_5 < 0 then (if 0 ≤ x8_2 then (if x8_2 < (l0.length : Int) then (if x10_5 < ((rd_L1 l0 x8_2).length : Int) then (haulierref27_Far.l2 kj8 l0 a1 x5_1 x6_1 x7_2 x8_2 (wrap64 ((rd (rd_L1 l0 x8_2) x10_5) + (rd (rd_L1 x5_1 (wrap64 (x6_1 - 1))) x10_5))) (wrap64 (x10_5 + 1))) else (none)) else (none)) else (none)) else (if 0 ≤ x8_2 then (if x8_2 < (l0.length : Int) then (if x10_5 < ((rd_L1 l0 x8_2).length : Int) then (if (wrap64 ((rd (rd_L1 l0 x8_2) x10_5) + (rd (rd_L1 x5_1 (wrap64 (x6_1 - 1))) x10_5))) < x9_5 then (haulierref27_Far.l2 kj8 l0 a1 x5_1 x6_1 x7_2 x8_2 (wrap64 ((rd (rd_L1 l0 x8_2) x10_5) + (rd (rd_L1 x5_1 (wrap64 (x6_1 - 1))) x10_5))) (wrap64 (x10_5 + 1))) else (haulierref27_Far.l2 kj8 l0 a1 x5_1 x6_1 x7_2 x8_2 x9_5 (wrap64 (x10_5 + 1)))) else (none)) else (none)) else (none))) else (haulierref27_Far.l2 kj8 l0 a1 x5_1 x6_1 x7_2 x8_2 x9_5 (wrap64 (x10_5 + 1)))) else (none)) else (none)) else (none)) else (none)) = some r := by rw [if_pos rfl] at H; exact H
                                clear H
                                have H := H1
                                clear H1
                                obtain ⟨ji12, hji12⟩ : ∃ j_ : Int, (wrap64 (x6_1 - 1)) = j_ := ⟨_, rfl⟩
                                replace H : (if 0 ≤ (ji12) then (if (ji12) < (x5_1.length : Int) then (if 0 ≤ x10_5 then (if x10_5 < ((rd_L1 x5_1 (ji12)).length : Int) then (if (rd (rd_L1 x5_1 (ji12)) x10_5) ≥ 0 then (if x9_5 < 0 then (if 0 ≤ x8_2 then (if x8_2 < (l0.length : Int) then (if x10_5 < ((rd_L1 l0 x8_2).length : Int) then (haulierref27_Far.l2 kj8 l0 a1 x5_1 x6_1 x7_2 x8_2 (wrap64 ((rd (rd_L1 l0 x8_2) x10_5) + (rd (rd_L1 x5_1 (ji12)) x10_5))) (wrap64 (x10_5 + 1))) else (none)) else (none)) else (none)) else (if 0 ≤ x8_2 then (if x8_2 < (l0.length : Int) then (if x10_5 < ((rd_L1 l0 x8_2).length : Int) then (if (wrap64 ((rd (rd_L1 l0 x8_2) x10_5) + (rd (rd_L1 x5_1 (ji12)) x10_5))) < x9_5 then (haulierref27_Far.l2 kj8 l0 a1 x5_1 x6_1 x7_2 x8_2 (wrap64 ((rd (rd_L1 l0 x8_2) x10_5) + (rd (rd_L1 x5_1 (ji12)) x10_5))) (wrap64 (x10_5 + 1))) else (haulierref27_Far.l2 kj8 l0 a1 x5_1 x6_1 x7_2 x8_2 x9_5 (wrap64 (x10_5 + 1)))) else (none)) else (none)) else (none))) else (haulierref27_Far.l2 kj8 l0 a1 x5_1 x6_1 x7_2 x8_2 x9_5 (wrap64 (x10_5 + 1)))) else (none)) else (none)) else (none)) else (none)) = some r := by first | (rw [hji12] at H; exact H) | (simp only [hji12] at H ⊢; exact H)
                                have hji12w : (IntKind.i64.wrap (x6_1 - 1)) = ji12 := (i64_w _).trans hji12
                                by_cases c13 : 0 ≤ (ji12)
                                · rw [if_pos c13] at H
                                  have c13b0 : decide (0 ≤ (ji12)) = true := decide_eq_true c13
                                  clear c13
                                  by_cases c14 : (ji12) < (x5_1.length : Int)
                                  · rw [if_pos c14] at H
                                    have c14b0 : decide ((ji12) < (x5_1.length : Int)) = true := decide_eq_true c14
                                    clear c14
                                    by_cases c15 : 0 ≤ x10_5
                                    · rw [if_pos c15] at H
                                      have c15b0 : decide (0 ≤ x10_5) = true := decide_eq_true c15
                                      clear c15
                                      by_cases c16 : x10_5 < ((rd_L1 x5_1 (ji12)).length : Int)
                                      · rw [if_pos c16] at H
                                        have c16b0 : decide (x10_5 < ((rd_L1 x5_1 (ji12)).length : Int)) = true := decide_eq_true c16
                                        clear c16
                                        by_cases c17 : (rd (rd_L1 x5_1 (ji12)) x10_5) ≥ 0
                                        · rw [if_pos c17] at H
                                          have c17b0 : decide (0 ≤ (rd (rd_L1 x5_1 (ji12)) x10_5)) = true := decide_eq_true c17
                                          clear c17
                                          by_cases c18 : x9_5 < 0
                                          · rw [if_pos c18] at H
                                            have c18b0 : decide (x9_5 < 0) = true := decide_eq_true c18
                                            clear c18
                                            by_cases c19 : 0 ≤ x8_2
                                            · rw [if_pos c19] at H
                                              have c19b0 : decide (0 ≤ x8_2) = true := decide_eq_true c19
                                              clear c19
                                              by_cases c20 : x8_2 < (l0.length : Int)
                                              · rw [if_pos c20] at H
                                                have c20b0 : decide (x8_2 < (l0.length : Int)) = true := decide_eq_true c20
                                                clear c20
                                                by_cases c21 : x10_5 < ((rd_L1 l0 x8_2).length : Int)
                                                · rw [if_pos c21] at H
                                                  have c21b0 : decide (x10_5 < ((rd_L1 l0 x8_2).length : Int)) = true := decide_eq_true c21
                                                  clear c21
                                                  have H' := Aside0.mk H
                                                  clear H
                                                  obtain ⟨Ao22, co22, eo22⟩ := Kd.S_slice HO_5.out
                                                  subst eo22
                                                  have p203 : 0 ≤ ((ji12) : Int) := of_decide_eq_true (by first | (with_reducible assumption) | assumption)
                                                  have q203 : (ji12) < (x5_1.length : Int) := of_decide_eq_true (by first | (with_reducible assumption) | assumption)
                                                  obtain ⟨ad203, A203_0, c203_0, e203, hx203_0, hl203_0, hi203_0⟩ := at_L1 (Kd.S_reads' HO_5.out).2.2 (ji12) p203 q203
                                                  cases e203
                                                  obtain ⟨ce203, hce203, hMe203, hcc203⟩ := Kd.S_get HO_5.out [] (ji12) p203 (by first | exact q203 | exact of_decide_eq_true (by first | (with_reducible assumption) | assumption) | (have e_ := (Kd.S_reads' HO_5.out).1; omega))
                                                  obtain ⟨ve203_0, rfl, ge203_0⟩ := hMe203
                                                  have hv203_0 := hcc203 0 _ rfl
                                                  rw [Nat.add_zero, show ((Kd.slice 3 (Kd.int .i64))).sz = 1 from rfl, Nat.mul_one] at hv203_0
                                                  replace hv203_0 := Option.some.inj (hv203_0.symm.trans hx203_0)
                                                  rw [hv203_0] at ge203_0
                                                  have HL203_0 := Aside0.mk (show Kd.R (Kd.int .i64) 3 _ _ _ _ (rd_L1 x5_1 (ji12)) from ge203_0)
                                                  clear hv203_0 ge203_0
                                                  clear hcc203 hce203
                                                  have HR203_0 := Aside0.mk hi203_0
                                                  have HC203_0 := Aside0.mk hl203_0
                                                  clear hi203_0 hl203_0
                                                  replace p203 := eq_true p203
                                                  replace q203 := eq_true q203
                                                  have p204 : 0 ≤ (x10_5 : Int) := of_decide_eq_true (by first | (with_reducible assumption) | assumption)
                                                  have q204 : x10_5 < ((rd_L1 x5_1 (ji12)).length : Int) := of_decide_eq_true (by first | (with_reducible assumption) | assumption)
                                                  obtain ⟨ad204, e204, hx204_0⟩ := Kd.at_int (by repeat (first | (with_reducible exact HR203_0.out) | (with_reducible refine Kd.C_alloc ?_ _) | (with_reducible refine Kd.C_drewN ?_ _) | (with_reducible refine Kd.C_drew ?_) | exact HR203_0.out)) x10_5 p204 q204
                                                  cases e204
                                                  replace p204 := eq_true p204
                                                  replace q204 := eq_true q204
                                                  have p205 : 0 ≤ (x8_2 : Int) := of_decide_eq_true (by first | (with_reducible assumption) | assumption)
                                                  have q205 : x8_2 < (l0.length : Int) := of_decide_eq_true (by first | (with_reducible assumption) | assumption)
                                                  obtain ⟨ad205, A205_0, c205_0, e205, hx205_0, hl205_0, hi205_0⟩ := at_L1 HR0.out x8_2 p205 q205
                                                  cases e205
                                                  replace hx205_0 := (HB.out.cell (World.block_lt_of_cell? w _ hx205_0)).trans hx205_0
                                                  have HR205_0 := Aside0.mk hi205_0
                                                  have HC205_0 := Aside0.mk hl205_0
                                                  clear hi205_0 hl205_0
                                                  replace p205 := eq_true p205
                                                  replace q205 := eq_true q205
                                                  have p206 : 0 ≤ (x10_5 : Int) := of_decide_eq_true (by first | (with_reducible assumption) | assumption)
                                                  have q206 : x10_5 < ((rd_L1 l0 x8_2).length : Int) := of_decide_eq_true (by first | (with_reducible assumption) | assumption)
                                                  obtain ⟨ad206, e206, hx206_0⟩ := Kd.at_int HR205_0.out x10_5 p206 q206
                                                  cases e206
                                                  replace hx206_0 := (HB.out.cell (World.block_lt_of_cell? w _ hx206_0)).trans hx206_0
                                                  replace p206 := eq_true p206
                                                  replace q206 := eq_true q206
                                                  go_wp2
                                                  go_roundg kj8
                                                  case measure => have := HK1.out; have := HK2.out; have := HJ4.out; have := HJ6.out; have := HK5.out; have := HJ8.out; omega
                                                  case rel => exact ⟨(wrap64 ((rd (rd_L1 l0 x8_2) x10_5) + (rd (rd_L1 x5_1 (ji12)) x10_5))), (wrap64 (x10_5 + 1)), (by first | rfl | (simp; done) | (simp only [← hji12] <;> (first | rfl | simp)) | (simp [*]; done)), (by first | rfl | (simp; done) | (simp [*]; done)), H', ⟨by have := HK1.out; have := HK2.out; have := HJ4.out; have := HJ6.out; have := HK5.out; have := HJ8.out; omega⟩, ⟨by (with_reducible repeat (first | apply Kd.S_alloc | apply Kd.S_drewN | apply Kd.S_drew)); exact HO_5.out⟩, ⟨by (with_reducible repeat (first | apply Kd.R_alloc | apply Kd.R_drewN | apply Kd.R_drew)); exact HO_7.out⟩, ⟨by repeat (first | (with_reducible first | exact HB.out | apply below_alloc | apply pw_below_drewN | apply below_drew1) | exact HB.out)⟩⟩
                                                · rw [if_neg c21] at H
                                                  exact absurd H (by simp)
                                              · rw [if_neg c20] at H
                                                exact absurd H (by simp)
                                            · rw [if_neg c19] at H
                                              exact absurd H (by simp)
                                          · rw [if_neg c18] at H
                                            have c18b0 : decide (x9_5 < 0) = false := decide_eq_false c18
                                            clear c18
                                            by_cases c23 : 0 ≤ x8_2
                                            · rw [if_pos c23] at H
                                              have c23b0 : decide (0 ≤ x8_2) = true := decide_eq_true c23
                                              clear c23
                                              by_cases c24 : x8_2 < (l0.length : Int)
                                              · rw [if_pos c24] at H
                                                have c24b0 : decide (x8_2 < (l0.length : Int)) = true := decide_eq_true c24
                                                clear c24
                                                by_cases c25 : x10_5 < ((rd_L1 l0 x8_2).length : Int)
                                                · rw [if_pos c25] at H
                                                  have c25b0 : decide (x10_5 < ((rd_L1 l0 x8_2).length : Int)) = true := decide_eq_true c25
                                                  clear c25
                                                  by_cases c26 : (wrap64 ((rd (rd_L1 l0 x8_2) x10_5) + (rd (rd_L1 x5_1 (ji12)) x10_5))) < x9_5
                                                  · rw [if_pos c26] at H
                                                    have c26b0 : decide ((wrap64 ((rd (rd_L1 l0 x8_2) x10_5) + (rd (rd_L1 x5_1 (ji12)) x10_5))) < x9_5) = true := decide_eq_true c26
                                                    clear c26
                                                    have H' := Aside0.mk H
                                                    clear H
                                                    obtain ⟨Ao27, co27, eo27⟩ := Kd.S_slice HO_5.out
                                                    subst eo27
                                                    have p203 : 0 ≤ ((ji12) : Int) := of_decide_eq_true (by first | (with_reducible assumption) | assumption)
                                                    have q203 : (ji12) < (x5_1.length : Int) := of_decide_eq_true (by first | (with_reducible assumption) | assumption)
                                                    obtain ⟨ad203, A203_0, c203_0, e203, hx203_0, hl203_0, hi203_0⟩ := at_L1 (Kd.S_reads' HO_5.out).2.2 (ji12) p203 q203
                                                    cases e203
                                                    obtain ⟨ce203, hce203, hMe203, hcc203⟩ := Kd.S_get HO_5.out [] (ji12) p203 (by first | exact q203 | exact of_decide_eq_true (by first | (with_reducible assumption) | assumption) | (have e_ := (Kd.S_reads' HO_5.out).1; omega))
                                                    obtain ⟨ve203_0, rfl, ge203_0⟩ := hMe203
                                                    have hv203_0 := hcc203 0 _ rfl
                                                    rw [Nat.add_zero, show ((Kd.slice 3 (Kd.int .i64))).sz = 1 from rfl, Nat.mul_one] at hv203_0
                                                    replace hv203_0 := Option.some.inj (hv203_0.symm.trans hx203_0)
                                                    rw [hv203_0] at ge203_0
                                                    have HL203_0 := Aside0.mk (show Kd.R (Kd.int .i64) 3 _ _ _ _ (rd_L1 x5_1 (ji12)) from ge203_0)
                                                    clear hv203_0 ge203_0
                                                    clear hcc203 hce203
                                                    have HR203_0 := Aside0.mk hi203_0
                                                    have HC203_0 := Aside0.mk hl203_0
                                                    clear hi203_0 hl203_0
                                                    replace p203 := eq_true p203
                                                    replace q203 := eq_true q203
                                                    have p204 : 0 ≤ (x10_5 : Int) := of_decide_eq_true (by first | (with_reducible assumption) | assumption)
                                                    have q204 : x10_5 < ((rd_L1 x5_1 (ji12)).length : Int) := of_decide_eq_true (by first | (with_reducible assumption) | assumption)
                                                    obtain ⟨ad204, e204, hx204_0⟩ := Kd.at_int (by repeat (first | (with_reducible exact HR203_0.out) | (with_reducible refine Kd.C_alloc ?_ _) | (with_reducible refine Kd.C_drewN ?_ _) | (with_reducible refine Kd.C_drew ?_) | exact HR203_0.out)) x10_5 p204 q204
                                                    cases e204
                                                    replace p204 := eq_true p204
                                                    replace q204 := eq_true q204
                                                    have p207 : 0 ≤ (x8_2 : Int) := of_decide_eq_true (by first | (with_reducible assumption) | assumption)
                                                    have q207 : x8_2 < (l0.length : Int) := of_decide_eq_true (by first | (with_reducible assumption) | assumption)
                                                    obtain ⟨ad207, A207_0, c207_0, e207, hx207_0, hl207_0, hi207_0⟩ := at_L1 HR0.out x8_2 p207 q207
                                                    cases e207
                                                    replace hx207_0 := (HB.out.cell (World.block_lt_of_cell? w _ hx207_0)).trans hx207_0
                                                    have HR207_0 := Aside0.mk hi207_0
                                                    have HC207_0 := Aside0.mk hl207_0
                                                    clear hi207_0 hl207_0
                                                    replace p207 := eq_true p207
                                                    replace q207 := eq_true q207
                                                    have p208 : 0 ≤ (x10_5 : Int) := of_decide_eq_true (by first | (with_reducible assumption) | assumption)
                                                    have q208 : x10_5 < ((rd_L1 l0 x8_2).length : Int) := of_decide_eq_true (by first | (with_reducible assumption) | assumption)
                                                    obtain ⟨ad208, e208, hx208_0⟩ := Kd.at_int HR207_0.out x10_5 p208 q208
                                                    cases e208
                                                    replace hx208_0 := (HB.out.cell (World.block_lt_of_cell? w _ hx208_0)).trans hx208_0
                                                    replace p208 := eq_true p208
                                                    replace q208 := eq_true q208
                                                    have p209 : 0 ≤ (x8_2 : Int) := of_decide_eq_true (by first | (with_reducible assumption) | assumption)
                                                    have q209 : x8_2 < (l0.length : Int) := of_decide_eq_true (by first | (with_reducible assumption) | assumption)
                                                    obtain ⟨ad209, A209_0, c209_0, e209, hx209_0, hl209_0, hi209_0⟩ := at_L1 HR0.out x8_2 p209 q209
                                                    obtain rfl : ad207 = ad209 := (by injection e209)
                                                    replace hx209_0 := (HB.out.cell (World.block_lt_of_cell? w _ hx209_0)).trans hx209_0
                                                    have HR209_0 := Aside0.mk hi209_0
                                                    have HC209_0 := Aside0.mk hl209_0
                                                    clear hi209_0 hl209_0
                                                    replace p209 := eq_true p209
                                                    replace q209 := eq_true q209
                                                    have ea_ := Option.some.inj (hx207_0.symm.trans hx209_0)
                                                    injection ea_ with ea_ en_ ec_
                                                    subst ea_
                                                    subst ec_
                                                    clear en_
                                                    have p210 : 0 ≤ (x10_5 : Int) := of_decide_eq_true (by first | (with_reducible assumption) | assumption)
                                                    have q210 : x10_5 < ((rd_L1 l0 x8_2).length : Int) := of_decide_eq_true (by first | (with_reducible assumption) | assumption)
                                                    obtain ⟨ad210, e210, hx210_0⟩ := Kd.at_int HR209_0.out x10_5 p210 q210
                                                    cases e210
                                                    replace hx210_0 := (HB.out.cell (World.block_lt_of_cell? w _ hx210_0)).trans hx210_0
                                                    replace p210 := eq_true p210
                                                    replace q210 := eq_true q210
                                                    go_wp2
                                                    go_roundg kj8
                                                    case measure => have := HK1.out; have := HK2.out; have := HJ4.out; have := HJ6.out; have := HK5.out; have := HJ8.out; omega
                                                    case rel => exact ⟨(wrap64 ((rd (rd_L1 l0 x8_2) x10_5) + (rd (rd_L1 x5_1 (ji12)) x10_5))), (wrap64 (x10_5 + 1)), (by first | rfl | (simp; done) | (simp only [← hji12] <;> (first | rfl | simp)) | (simp [*]; done)), (by first | rfl | (simp; done) | (simp [*]; done)), H', ⟨by have := HK1.out; have := HK2.out; have := HJ4.out; have := HJ6.out; have := HK5.out; have := HJ8.out; omega⟩, ⟨by (with_reducible repeat (first | apply Kd.S_alloc | apply Kd.S_drewN | apply Kd.S_drew)); exact HO_5.out⟩, ⟨by (with_reducible repeat (first | apply Kd.R_alloc | apply Kd.R_drewN | apply Kd.R_drew)); exact HO_7.out⟩, ⟨by repeat (first | (with_reducible first | exact HB.out | apply below_alloc | apply pw_below_drewN | apply below_drew1) | exact HB.out)⟩⟩
                                                  · rw [if_neg c26] at H
                                                    have c26b0 : decide ((wrap64 ((rd (rd_L1 l0 x8_2) x10_5) + (rd (rd_L1 x5_1 (ji12)) x10_5))) < x9_5) = false := decide_eq_false c26
                                                    clear c26
                                                    have H' := Aside0.mk H
                                                    clear H
                                                    obtain ⟨Ao28, co28, eo28⟩ := Kd.S_slice HO_5.out
                                                    subst eo28
                                                    have p203 : 0 ≤ ((ji12) : Int) := of_decide_eq_true (by first | (with_reducible assumption) | assumption)
                                                    have q203 : (ji12) < (x5_1.length : Int) := of_decide_eq_true (by first | (with_reducible assumption) | assumption)
                                                    obtain ⟨ad203, A203_0, c203_0, e203, hx203_0, hl203_0, hi203_0⟩ := at_L1 (Kd.S_reads' HO_5.out).2.2 (ji12) p203 q203
                                                    cases e203
                                                    obtain ⟨ce203, hce203, hMe203, hcc203⟩ := Kd.S_get HO_5.out [] (ji12) p203 (by first | exact q203 | exact of_decide_eq_true (by first | (with_reducible assumption) | assumption) | (have e_ := (Kd.S_reads' HO_5.out).1; omega))
                                                    obtain ⟨ve203_0, rfl, ge203_0⟩ := hMe203
                                                    have hv203_0 := hcc203 0 _ rfl
                                                    rw [Nat.add_zero, show ((Kd.slice 3 (Kd.int .i64))).sz = 1 from rfl, Nat.mul_one] at hv203_0
                                                    replace hv203_0 := Option.some.inj (hv203_0.symm.trans hx203_0)
                                                    rw [hv203_0] at ge203_0
                                                    have HL203_0 := Aside0.mk (show Kd.R (Kd.int .i64) 3 _ _ _ _ (rd_L1 x5_1 (ji12)) from ge203_0)
                                                    clear hv203_0 ge203_0
                                                    clear hcc203 hce203
                                                    have HR203_0 := Aside0.mk hi203_0
                                                    have HC203_0 := Aside0.mk hl203_0
                                                    clear hi203_0 hl203_0
                                                    replace p203 := eq_true p203
                                                    replace q203 := eq_true q203
                                                    have p204 : 0 ≤ (x10_5 : Int) := of_decide_eq_true (by first | (with_reducible assumption) | assumption)
                                                    have q204 : x10_5 < ((rd_L1 x5_1 (ji12)).length : Int) := of_decide_eq_true (by first | (with_reducible assumption) | assumption)
                                                    obtain ⟨ad204, e204, hx204_0⟩ := Kd.at_int (by repeat (first | (with_reducible exact HR203_0.out) | (with_reducible refine Kd.C_alloc ?_ _) | (with_reducible refine Kd.C_drewN ?_ _) | (with_reducible refine Kd.C_drew ?_) | exact HR203_0.out)) x10_5 p204 q204
                                                    cases e204
                                                    replace p204 := eq_true p204
                                                    replace q204 := eq_true q204
                                                    have p207 : 0 ≤ (x8_2 : Int) := of_decide_eq_true (by first | (with_reducible assumption) | assumption)
                                                    have q207 : x8_2 < (l0.length : Int) := of_decide_eq_true (by first | (with_reducible assumption) | assumption)
                                                    obtain ⟨ad207, A207_0, c207_0, e207, hx207_0, hl207_0, hi207_0⟩ := at_L1 HR0.out x8_2 p207 q207
                                                    cases e207
                                                    replace hx207_0 := (HB.out.cell (World.block_lt_of_cell? w _ hx207_0)).trans hx207_0
                                                    have HR207_0 := Aside0.mk hi207_0
                                                    have HC207_0 := Aside0.mk hl207_0
                                                    clear hi207_0 hl207_0
                                                    replace p207 := eq_true p207
                                                    replace q207 := eq_true q207
                                                    have p208 : 0 ≤ (x10_5 : Int) := of_decide_eq_true (by first | (with_reducible assumption) | assumption)
                                                    have q208 : x10_5 < ((rd_L1 l0 x8_2).length : Int) := of_decide_eq_true (by first | (with_reducible assumption) | assumption)
                                                    obtain ⟨ad208, e208, hx208_0⟩ := Kd.at_int HR207_0.out x10_5 p208 q208
                                                    cases e208
                                                    replace hx208_0 := (HB.out.cell (World.block_lt_of_cell? w _ hx208_0)).trans hx208_0
                                                    replace p208 := eq_true p208
                                                    replace q208 := eq_true q208
                                                    go_wp2
                                                    go_roundg kj8
                                                    case measure => have := HK1.out; have := HK2.out; have := HJ4.out; have := HJ6.out; have := HK5.out; have := HJ8.out; omega
                                                    case rel => exact ⟨(x9_5), (wrap64 (x10_5 + 1)), (by first | rfl | (simp; done) | (simp [*]; done)), (by first | rfl | (simp; done) | (simp [*]; done)), H', ⟨by have := HK1.out; have := HK2.out; have := HJ4.out; have := HJ6.out; have := HK5.out; have := HJ8.out; omega⟩, ⟨by (with_reducible repeat (first | apply Kd.S_alloc | apply Kd.S_drewN | apply Kd.S_drew)); exact HO_5.out⟩, ⟨by (with_reducible repeat (first | apply Kd.R_alloc | apply Kd.R_drewN | apply Kd.R_drew)); exact HO_7.out⟩, ⟨by repeat (first | (with_reducible first | exact HB.out | apply below_alloc | apply pw_below_drewN | apply below_drew1) | exact HB.out)⟩⟩
                                                · rw [if_neg c25] at H
                                                  exact absurd H (by simp)
                                              · rw [if_neg c24] at H
                                                exact absurd H (by simp)
                                            · rw [if_neg c23] at H
                                              exact absurd H (by simp)
                                        · rw [if_neg c17] at H
                                          have c17b0 : decide (0 ≤ (rd (rd_L1 x5_1 (ji12)) x10_5)) = false := decide_eq_false c17
                                          clear c17
                                          have H' := Aside0.mk H
                                          clear H
                                          obtain ⟨Ao29, co29, eo29⟩ := Kd.S_slice HO_5.out
                                          subst eo29
                                          have p203 : 0 ≤ ((ji12) : Int) := of_decide_eq_true (by first | (with_reducible assumption) | assumption)
                                          have q203 : (ji12) < (x5_1.length : Int) := of_decide_eq_true (by first | (with_reducible assumption) | assumption)
                                          obtain ⟨ad203, A203_0, c203_0, e203, hx203_0, hl203_0, hi203_0⟩ := at_L1 (Kd.S_reads' HO_5.out).2.2 (ji12) p203 q203
                                          cases e203
                                          obtain ⟨ce203, hce203, hMe203, hcc203⟩ := Kd.S_get HO_5.out [] (ji12) p203 (by first | exact q203 | exact of_decide_eq_true (by first | (with_reducible assumption) | assumption) | (have e_ := (Kd.S_reads' HO_5.out).1; omega))
                                          obtain ⟨ve203_0, rfl, ge203_0⟩ := hMe203
                                          have hv203_0 := hcc203 0 _ rfl
                                          rw [Nat.add_zero, show ((Kd.slice 3 (Kd.int .i64))).sz = 1 from rfl, Nat.mul_one] at hv203_0
                                          replace hv203_0 := Option.some.inj (hv203_0.symm.trans hx203_0)
                                          rw [hv203_0] at ge203_0
                                          have HL203_0 := Aside0.mk (show Kd.R (Kd.int .i64) 3 _ _ _ _ (rd_L1 x5_1 (ji12)) from ge203_0)
                                          clear hv203_0 ge203_0
                                          clear hcc203 hce203
                                          have HR203_0 := Aside0.mk hi203_0
                                          have HC203_0 := Aside0.mk hl203_0
                                          clear hi203_0 hl203_0
                                          replace p203 := eq_true p203
                                          replace q203 := eq_true q203
                                          have p204 : 0 ≤ (x10_5 : Int) := of_decide_eq_true (by first | (with_reducible assumption) | assumption)
                                          have q204 : x10_5 < ((rd_L1 x5_1 (ji12)).length : Int) := of_decide_eq_true (by first | (with_reducible assumption) | assumption)
                                          obtain ⟨ad204, e204, hx204_0⟩ := Kd.at_int (by repeat (first | (with_reducible exact HR203_0.out) | (with_reducible refine Kd.C_alloc ?_ _) | (with_reducible refine Kd.C_drewN ?_ _) | (with_reducible refine Kd.C_drew ?_) | exact HR203_0.out)) x10_5 p204 q204
                                          cases e204
                                          replace p204 := eq_true p204
                                          replace q204 := eq_true q204
                                          go_wp2
                                          go_roundg kj8
                                          case measure => have := HK1.out; have := HK2.out; have := HJ4.out; have := HJ6.out; have := HK5.out; have := HJ8.out; omega
                                          case rel => exact ⟨(x9_5), (wrap64 (x10_5 + 1)), (by first | rfl | (simp; done) | (simp [*]; done)), (by first | rfl | (simp; done) | (simp [*]; done)), H', ⟨by have := HK1.out; have := HK2.out; have := HJ4.out; have := HJ6.out; have := HK5.out; have := HJ8.out; omega⟩, ⟨by (with_reducible repeat (first | apply Kd.S_alloc | apply Kd.S_drewN | apply Kd.S_drew)); exact HO_5.out⟩, ⟨by (with_reducible repeat (first | apply Kd.R_alloc | apply Kd.R_drewN | apply Kd.R_drew)); exact HO_7.out⟩, ⟨by repeat (first | (with_reducible first | exact HB.out | apply below_alloc | apply pw_below_drewN | apply below_drew1) | exact HB.out)⟩⟩
                                      · rw [if_neg c16] at H
                                        exact absurd H (by simp)
                                    · rw [if_neg c15] at H
                                      exact absurd H (by simp)
                                  · rw [if_neg c14] at H
                                    exact absurd H (by simp)
                                · rw [if_neg c13] at H
                                  exact absurd H (by simp)
                              · replace c11 := Bool.eq_false_iff.mpr c11
                                subst c11
                                have H1 : (if x7_2.length < 17592186044416 then (haulierref27_Far.l1 kj8 l0 a1 x5_1 x6_1 (x7_2 ++ [x9_5]) (wrap64 (x8_2 + 1))) else (none)) = some r := by rw [if_neg (show ¬ (false = true) by decide)] at H; exact H
                                clear H
                                have H := H1
                                clear H1
                                by_cases c30 : x7_2.length < 17592186044416
                                · rw [if_pos c30] at H
                                  have LMc30 := Aside0.mk c30
                                  clear c30
                                  obtain ⟨y211, hy211⟩ : ∃ y_ : List Int, y_ = (x7_2 ++ [x9_5]) := ⟨_, rfl⟩
                                  replace H : (haulierref27_Far.l1 kj8 l0 a1 x5_1 x6_1 y211 (wrap64 (x8_2 + 1))) = some r := by first | (rw [hy211]; with_reducible exact H) | (have H2_ := (Option.bind_some _ _).symm.trans H; rw [hy211]; with_reducible exact H2_) | (have H2_ := (Option.bind_some _ _).symm.trans H; with_reducible exact H2_) | with_reducible exact H | (rw [hy211]; exact H) | exact H
                                  have Ny211 := Aside0.mk hy211
                                  clear hy211
                                  have H' := Aside0.mk H
                                  clear H
                                  go_wp2_with (first | ((with_reducible refine gate_builtin (b := .append) (xs := #[.tmp 77, .tmp 79]) rfl ?_); (try (refine gate_guard (by rfl) ?_; dsimp only)); at_builtin; refine Kd.R_append (Kd.int .i64) (w0 := w) w.heap.size rfl (.tmp 77) (.tmp 79) 23 3 (.int .i64 0) 8 rfl Try.underlying23 info3 rfl (by decide) (by omega) u7 x7_2 x9_5 [.int .i64 x9_5] (fun _ => True) (fun _ => False) rfl rfl ?aP (fun _ hk => hk.elim) ?aF ?aO ?aB ?aS ?aL ?_; (case aP => exact rfl); (case aB => exact (by repeat (first | (with_reducible first | exact HB.out | apply below_alloc | apply pw_below_drewN | apply below_drew1) | exact HB.out))); (case aF => exact (fun _ _ => trivial)); (case aO => exact (by (with_reducible repeat (first | apply Kd.R_alloc | apply Kd.R_drewN | apply Kd.R_drew)); exact HO_7.out)); (case aS => exact (below_size (by repeat (first | (with_reducible first | exact HB.out | apply below_alloc | apply pw_below_drewN | apply below_drew1) | exact HB.out)))); (case aL => have := LMc30.out; omega); intro v212 w31 ho hb hg hat; rw [← Ny211.out] at ho; have n0_ := Aside0.mk (Kd.S_after (ok := (fun _ => True)) (by (with_reducible repeat (first | apply Kd.S_alloc | apply Kd.S_drewN | apply Kd.S_drew)); exact Kd.S_mono HO_5.out (fun _ hk => ⟨trivial, hk⟩)) hg hat); have n1_ := Aside0.mk (hb); have n2_ := Aside0.mk (ho); clear HO_5; clear HB; clear HO_7; have HO_5 := n0_; have HB := n1_; have HO213 := n2_; clear n0_ n1_ n2_; clear ho hb hg hat))
                                  go_roundg kj8
                                  case measure => have := HK1.out; have := HK2.out; have := HJ4.out; have := HJ6.out; have := HK5.out; have := HJ8.out; omega
                                  case rel => exact ⟨(y211), (wrap64 (x8_2 + 1)), (by first | rfl | (simp; done) | (simp [*]; done)), H', ⟨by have := HK1.out; have := HK2.out; have := HJ4.out; have := HJ6.out; have := HK5.out; have := HJ8.out; omega⟩, ⟨by (with_reducible repeat (first | apply Kd.S_alloc | apply Kd.S_drewN | apply Kd.S_drew)); exact Kd.S_mono HO_5.out (fun _ hk => hk.2)⟩, ⟨by (with_reducible repeat (first | apply Kd.R_alloc | apply Kd.R_drewN | apply Kd.R_drew)); exact HO213.out⟩, ⟨by repeat (first | (with_reducible first | exact HB.out | apply below_alloc | apply pw_below_drewN | apply below_drew1) | exact HB.out)⟩⟩
                                · rw [if_neg c30] at H
                                  exact absurd H (by simp)
            · rw [if_neg c4] at H
              have c4b0 : decide (x8_2 < (l0.length : Int)) = false := decide_eq_false c4
              clear c4
              by_cases c32 : x5_1.length < 5864062014805
              · rw [if_pos c32] at H
                have LMc32 := Aside0.mk c32
                clear c32
                obtain ⟨y200, hy200⟩ : ∃ y_ : List (List Int), y_ = (x5_1 ++ [x7_2]) := ⟨_, rfl⟩
                replace H : (haulierref27_Far.l0 k2 l0 a1 y200 (wrap64 (x6_1 + 1))) = some r := by first | (rw [hy200]; with_reducible exact H) | (have H2_ := (Option.bind_some _ _).symm.trans H; rw [hy200]; with_reducible exact H2_) | (have H2_ := (Option.bind_some _ _).symm.trans H; with_reducible exact H2_) | with_reducible exact H | (rw [hy200]; exact H) | exact H
                have Ny200 := Aside0.mk hy200
                clear hy200
                have H' := Aside0.mk H
                clear H
                obtain ⟨Ao34, co34, eo34⟩ := Kd.R_slice HO_7.out
                subst eo34
                go_wp2_with (first | ((with_reducible refine gate_builtin (b := .append) (xs := #[.tmp 81, .tmp 83]) rfl ?_); (try (refine gate_guard (by rfl) ?_; dsimp only)); at_builtin; refine Kd.S_append (Kd.slice 3 (Kd.int .i64)) (w0 := w) w.heap.size rfl (.tmp 81) (.tmp 83) 22 23 (.slice none 0 0) 24 rfl Try.underlying22 info23 rfl (by decide) (by omega) u5 x5_1 x7_2 [.slice Ao34 x7_2.length co34] (fun _ => True) (fun k_ => some k_ = (.slice Ao34 x7_2.length co34 : Value).ownBlock) rfl rfl ?aP (fun k_ hk_ => ((Kd.R_mono (ok' := fun k_ => ((fun _ => True)) k_ ∧ some k_ ≠ (u5 : Value).ownBlock) (Kd.R_apart' (HO_7.out) (Kd.S_typed HO_5.out) (by decide)) (fun k_ hk => ⟨trivial, hk.2⟩))).1 k_ hk_.symm) ?aF ?aO ?aB ?aS ?aL ?_; (case aP => exact Kd.M_row (Kd.R_mono (Kd.R_tight rfl (Kd.R_mono (ok' := fun k_ => ((fun _ => True)) k_ ∧ some k_ ≠ (u5 : Value).ownBlock) (Kd.R_apart' (HO_7.out) (Kd.S_typed HO_5.out) (by decide)) (fun k_ hk => ⟨trivial, hk.2⟩))) (fun _ h_ => h_))); (case aB => exact (by repeat (first | (with_reducible first | exact HB.out | apply below_alloc | apply pw_below_drewN | apply below_drew1) | exact HB.out))); (case aF => exact (fun _ _ => trivial)); (case aO => exact (by (with_reducible repeat (first | apply Kd.S_alloc | apply Kd.S_drewN | apply Kd.S_drew)); exact Kd.S_mono HO_5.out (fun k_ hk => ⟨trivial, fun e_ => hk e_⟩))); (case aS => exact (below_size (by repeat (first | (with_reducible first | exact HB.out | apply below_alloc | apply pw_below_drewN | apply below_drew1) | exact HB.out)))); (case aL => have := LMc32.out; omega); intro v201 w33 ho hb hg hat; rw [← Ny200.out] at ho; have n0_ := Aside0.mk (hb); have n1_ := Aside0.mk (ho); clear HB; clear HO_5; clear HO_7; have HB := n0_; have HO202 := n1_; clear n0_ n1_; clear ho hb hg hat))
                go_roundg k2
                case measure => have := HK1.out; have := HK2.out; omega
                case rel => exact ⟨(y200), (wrap64 (x6_1 + 1)), (by first | rfl | (simp; done) | (simp [*]; done)), H', ⟨by have := HK1.out; have := HK2.out; omega⟩, ⟨by (with_reducible repeat (first | apply Kd.S_alloc | apply Kd.S_drewN | apply Kd.S_drew)); exact HO202.out⟩, ⟨by repeat (first | (with_reducible first | exact HB.out | apply below_alloc | apply pw_below_drewN | apply below_drew1) | exact HB.out)⟩⟩
              · rw [if_neg c32] at H
                exact absurd H (by simp)
      · rw [if_neg c3] at H
        have c3b0 : decide (x6_1 < (l0.length : Int)) = false := decide_eq_false c3
        clear c3
        obtain rfl := Option.some.inj H
        go_wp2
        go_ret
        exact ⟨_, by first | rfl | (simp [errW_none, errW_some] <;> rfl) | (simp [*, errW_none, errW_some] <;> rfl), by (with_reducible repeat (first | apply Kd.S_alloc | apply Kd.S_drewN | apply Kd.S_drew)); exact HO_5.out, by repeat (first | (with_reducible first | exact HB.out | apply below_alloc | apply pw_below_drewN | apply below_drew1) | exact HB.out)⟩

end Go.Proofs.Ytecncfnbeocneaa.MChartCloses
