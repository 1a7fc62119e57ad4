/- Written by a program of this session: Go functions that the law ChartCloses reaches, as Lean functions, each with a proof that the Go code comes to just what it says; every input of the kinds that a contract names. -/
import Derived.Test.YtecncfnbeocneaaMChartClosesx0
import Derived.Test.YtecncfnbeocneaaMChartClosesx2
import Derived.Test.YtecncfnbeocneaaMChartClosesx3
namespace Go.Proofs.Ytecncfnbeocneaa.MChartCloses
open Go.RowKit Go.Proofs.YtecncfnbeocneaaW.PrintWords Go.Proofs.YtecncfnbeocneaaW.PrintLast Go.Proofs.YtecncfnbeocneaaW.PrintMore
attribute [local go_sem] max2_int min2_int max_two min_two max_three min_three max_four min_four   -- for this text's walks alone
set_option linter.unusedVariables false
set_option linter.unusedSimpArgs false
set_option linter.unnecessarySimpa false

/-! ### chart_closed: function 25 -/
mutual
def chart_closed.l0 : Nat → List (List (S50)) → Int → Int → Option ((List (List (S50))))
  | 0, _, _, _ => none
  | k + 1, x3, x11, x12 => if x12 < x11 then (chart_closed.l1 k x3 x12 x11 x12 (x3.length : Int) 0) else (some x3)
def chart_closed.l1 : Nat → List (List (S50)) → Int → Int → Int → Int → Int → Option ((List (List (S50))))
  | 0, _, _, _, _, _, _ => none
  | k + 1, x3, x4, x11, x12, x16, x17 => if x17 < x16 then (chart_closed.l2 k x3 x4 x17 x11 x12 x16 x17 (x3.length : Int) 0) else (chart_closed.l0 k x3 x11 (wrap64 (x12 + 1)))
def chart_closed.l2 : Nat → List (List (S50)) → Int → Int → Int → Int → Int → Int → Int → Int → Option ((List (List (S50))))
  | 0, _, _, _, _, _, _, _, _, _ => none
  | k + 1, x3, x4, x5, x11, x12, x16, x17, x21, x22 => if x22 < x21 then (if 0 ≤ x5 then (if x5 < (x3.length : Int) then (if 0 ≤ x4 then (if x4 < ((rd_L3 x3 x5).length : Int) then (if x4 < (x3.length : Int) then (if 0 ≤ x22 then (if x22 < ((rd_L3 x3 x4).length : Int) then ((chart_leg_and.f ((rd_T50 (rd_L3 x3 x5) x4).f0) ((rd_T50 (rd_L3 x3 x5) x4).f1) ((rd_T50 (rd_L3 x3 x4) x22).f0) ((rd_T50 (rd_L3 x3 x4) x22).f1)).bind fun bt136 => (if x22 < ((rd_L3 x3 x5).length : Int) then ((chart_leg_before.f bt136.1 bt136.2 ((rd_T50 (rd_L3 x3 x5) x22).f0) ((rd_T50 (rd_L3 x3 x5) x22).f1)).bind fun t141 => (if t141 = true then (chart_closed.l2 k (x3.set (x5 : Int).toNat ((rd_L3 x3 x5).set (x22 : Int).toNat (⟨bt136.1, bt136.2⟩ : S50))) x4 x5 x11 x12 x16 x17 x21 (wrap64 (x22 + 1))) else (chart_closed.l2 k x3 x4 x5 x11 x12 x16 x17 x21 (wrap64 (x22 + 1))))) else (none))) else (none)) else (none)) else (none)) else (none)) else (none)) else (none)) else (none)) else (chart_closed.l1 k x3 x4 x11 x12 x16 (wrap64 (x17 + 1)))
end
def chart_closed.f (k : Nat) (l0 : List (List Int)) : Option ((List (List (S50)))) := (chart_first.f k l0).bind fun t129 => (chart_closed.l0 k t129 (t129.length : Int) 0)
theorem chart_closed.mono_l : ∀ k, (∀ y0 y1 y2, LeO (chart_closed.l0 k y0 y1 y2) (chart_closed.l0 (k + 1) y0 y1 y2)) ∧ (∀ y0 y1 y2 y3 y4 y5, LeO (chart_closed.l1 k y0 y1 y2 y3 y4 y5) (chart_closed.l1 (k + 1) y0 y1 y2 y3 y4 y5)) ∧ (∀ y0 y1 y2 y3 y4 y5 y6 y7 y8, LeO (chart_closed.l2 k y0 y1 y2 y3 y4 y5 y6 y7 y8) (chart_closed.l2 (k + 1) y0 y1 y2 y3 y4 y5 y6 y7 y8))
  | 0 => ⟨fun _ _ _ r h => by simp [chart_closed.l0] at h, fun _ _ _ _ _ _ r h => by simp [chart_closed.l1] at h, fun _ _ _ _ _ _ _ _ _ r h => by simp [chart_closed.l2] at h⟩
  | k + 1 => by
    obtain ⟨ih0, ih1, ih2⟩ := chart_closed.mono_l k
    refine ⟨?_, ?_, ?_⟩
    · intro y0 y1 y2
      unfold chart_closed.l0
      repeat' first
      | (with_reducible exact ih0 _ _ _)
      | (with_reducible exact ih1 _ _ _ _ _ _)
      | (with_reducible exact ih2 _ _ _ _ _ _ _ _ _)
      | (with_reducible exact chart_first.mono _ _)
      | (with_reducible exact LeO.refl _)
      | (with_reducible exact LeO.none _)
      | (with_reducible refine LeO.ite ?_ ?_)
      | (with_reducible refine LeO.bind ?_ (fun _ => ?_))
      | exact ih0 _ _ _
      | exact ih1 _ _ _ _ _ _
      | exact ih2 _ _ _ _ _ _ _ _ _
      | exact chart_first.mono _ _
      | exact LeO.none _
      | refine LeO.ite ?_ ?_
      | refine LeO.bind ?_ (fun _ => ?_)
    · intro y0 y1 y2 y3 y4 y5
      unfold chart_closed.l1
      repeat' first
      | (with_reducible exact ih0 _ _ _)
      | (with_reducible exact ih1 _ _ _ _ _ _)
      | (with_reducible exact ih2 _ _ _ _ _ _ _ _ _)
      | (with_reducible exact chart_first.mono _ _)
      | (with_reducible exact LeO.refl _)
      | (with_reducible exact LeO.none _)
      | (with_reducible refine LeO.ite ?_ ?_)
      | (with_reducible refine LeO.bind ?_ (fun _ => ?_))
      | exact ih0 _ _ _
      | exact ih1 _ _ _ _ _ _
      | exact ih2 _ _ _ _ _ _ _ _ _
      | exact chart_first.mono _ _
      | exact LeO.none _
      | refine LeO.ite ?_ ?_
      | refine LeO.bind ?_ (fun _ => ?_)
    · intro y0 y1 y2 y3 y4 y5 y6 y7 y8
      unfold chart_closed.l2
      repeat' first
      | (with_reducible exact ih0 _ _ _)
      | (with_reducible exact ih1 _ _ _ _ _ _)
      | (with_reducible exact ih2 _ _ _ _ _ _ _ _ _)
      | (with_reducible exact chart_first.mono _ _)
      | (with_reducible exact LeO.refl _)
      | (with_reducible exact LeO.none _)
      | (with_reducible refine LeO.ite ?_ ?_)
      | (with_reducible refine LeO.bind ?_ (fun _ => ?_))
      | exact ih0 _ _ _
      | exact ih1 _ _ _ _ _ _
      | exact ih2 _ _ _ _ _ _ _ _ _
      | exact chart_first.mono _ _
      | exact LeO.none _
      | refine LeO.ite ?_ ?_
      | refine LeO.bind ?_ (fun _ => ?_)
theorem chart_closed.mono : ∀ a0 k, LeO (chart_closed.f k a0) (chart_closed.f (k + 1) a0) := by
  intro a0 k
  obtain ⟨ih0, ih1, ih2⟩ := chart_closed.mono_l k
  unfold chart_closed.f
  repeat' first
      | (with_reducible exact ih0 _ _ _)
      | (with_reducible exact ih1 _ _ _ _ _ _)
      | (with_reducible exact ih2 _ _ _ _ _ _ _ _ _)
      | (with_reducible exact chart_first.mono _ _)
      | (with_reducible exact LeO.refl _)
      | (with_reducible exact LeO.none _)
      | (with_reducible refine LeO.ite ?_ ?_)
      | (with_reducible refine LeO.bind ?_ (fun _ => ?_))
      | exact ih0 _ _ _
      | exact ih1 _ _ _ _ _ _
      | exact ih2 _ _ _ _ _ _ _ _ _
      | exact chart_first.mono _ _
      | exact LeO.none _
      | refine LeO.ite ?_ ?_
      | refine LeO.bind ?_ (fun _ => ?_)
def chart_closed.T11 : Bool × List (List Nat × List Nat) := (true, [([], []), ([], []), ([0, 1], [0, 1]), ([2], [2]), ([], []), ([3, 4], [3, 4]), ([5], [5]), ([], []), ([], []), ([7, 8], [7, 8]), ([9], [9]), ([], []), ([10, 11], [10, 11]), ([12], [12]), ([6, 13], [6, 13]), ([], []), ([15, 14, 14, 0, 1, 2, 3, 4, 5, 6, 7, 8, 9, 10, 11, 12, 13, 14, 15], [14, 15])])
def chart_closed.B11 : List Nat := [0, 0, 3, 7, 0, 31, 63, 0, 0, 384, 896, 0, 3968, 8064, 16383, 0, 65535]
theorem chart_closed.tab11 : rtab .any (opsOf Try.f25 11) = chart_closed.T11 := by kernel_rfl
theorem chart_closed.bits11 : waitsOk chart_closed.T11.2 chart_closed.B11 = true := by kernel_rfl
def chart_closed.T12 : Bool × List (List Nat × List Nat) := (true, [([], []), ([], []), ([], []), ([1, 2], [1, 2]), ([3], [3]), ([], []), ([4, 5], [4, 5]), ([6], [6]), ([0, 7], [0, 7])])
def chart_closed.B12 : List Nat := [0, 0, 0, 6, 14, 0, 62, 126, 255]
theorem chart_closed.tab12 : rtab .any (opsOf Try.f25 12) = chart_closed.T12 := by kernel_rfl
theorem chart_closed.bits12 : waitsOk chart_closed.T12.2 chart_closed.B12 = true := by kernel_rfl
def chart_closed.T13 : Bool × List (List Nat × List Nat) := (true, [([], []), ([], []), ([0, 1], [0, 1]), ([2], [2]), ([], []), ([], []), ([3, 4, 0, 1, 2, 3, 4, 5], [3, 4]), ([6, 5, 0, 1, 2, 3, 4, 5], [5, 6])])
def chart_closed.B13 : List Nat := [0, 0, 3, 7, 0, 0, 63, 127]
theorem chart_closed.tab13 : rtab .any (opsOf Try.f25 13) = chart_closed.T13 := by kernel_rfl
theorem chart_closed.bits13 : waitsOk chart_closed.T13.2 chart_closed.B13 = true := by kernel_rfl
set_option maxHeartbeats 8000000 in
set_option maxRecDepth 100000 in
theorem chart_closed.calls (k : Nat) (A0 : Option Addr) (c0 : Nat) (l0 : List (List Int)) (r : List (List (S50))) (w : World) (hr0 : Kd.C (Kd.slice 3 (Kd.int .i64)) w A0 l0.length l0) (hc0 : l0.length ≤ c0) (h : chart_closed.f k l0 = some r) :
    Calls Try.prog 25 #[.slice A0 l0.length c0] w fun e w' => ∃ v0_ : Value, e = .returned (v0_) ∧ Kd.S (Kd.slice 50 k50) 48 w' w.heap.size (fun _ => True) v0_ r ∧ Below w.heap.size w w' := by
  have hu50 := Try.underlying50
  have HR0 := Aside0.mk hr0
  have HC0 := Aside0.mk hc0
  clear hr0 hc0
  have HB := Aside0.mk (Below.refl w.heap.size w)
  have H : ((chart_first.f k l0).bind fun t129 => (chart_closed.l0 k t129 (t129.length : Int) 0)) = some r := h
  clear h
  replace H := Option.bind_eq_some_iff.mp H
  obtain ⟨t129, A20, H⟩ := H
  replace H : (chart_closed.l0 k t129 (t129.length : Int) 0) = some r := H
  have A2 := Aside0.mk A20
  clear A20
  have H' := Aside0.mk H
  clear H
  go_enter Try.func25, Try.ntmps25
  go_wp2_with (first | ((with_reducible refine gate_callee (f := 31) rfl ?_); refine goesL_ (some 9) rfl rfl Try.func31 (by kernel_rfl) rfl #[.slice A0 l0.length c0] rfl (by (try simp only [List.map_toArray, List.map_cons, List.map_nil]); first | done | rfl | (simp only [List.length_drop, List.length_take]; rfl)) ?_; (with_reducible refine (chart_first.calls k _ _ l0 t129 _ ?side1 ?side2 A2.out).mono ?_); (case side1 => repeat (first | exact HR0.out | (with_reducible refine Kd.C_alloc ?_ _) | (with_reducible refine Kd.C_drewN ?_ _) | (with_reducible refine Kd.C_drew ?_))); (case side2 => exact HC0.out); rintro e w3 ⟨v130, rfl, ho0, hb⟩; refine ⟨_, rfl, ?_⟩; have n0_ := Aside0.mk (Kd.S_lower ho0 (below_size (by repeat (first | (with_reducible first | exact HB.out | apply below_alloc | apply pw_below_drewN | apply below_drew1) | exact HB.out)))); have n1_ := Aside0.mk (below_step (by repeat (first | (with_reducible first | exact HB.out | apply below_alloc | apply pw_below_drewN | apply below_drew1) | exact HB.out)) hb); clear HB; have HO131 := n0_; have HB := n1_; clear n0_ n1_; (try clear hb); (try clear hb2); (try clear hk); (try clear hi); (try clear ho0); obtain ⟨Ao4, co4, eo4⟩ := Kd.S_slice HO131.out; subst eo4))
  go_loopg [12] k (fun kq v12 w' => ∃ (x3_1 : List (List (S50))) (x12_1 : Int), v12 = .int .i64 x12_1 ∧ Aside0 (chart_closed.l0 kq x3_1 (t129.length : Int) x12_1 = some r) ∧ Aside0 (kq ≤ k) ∧ Aside0 (Kd.S (Kd.slice 50 k50) 48 w' w.heap.size (fun _ => True) (.slice Ao4 t129.length co4) x3_1) ∧ Aside0 (Below w.heap.size w w'))
  case atStart => exact ⟨(t129), (0), (by first | rfl | (simp; done) | (simp [*]; done)), H', ⟨Nat.le_refl _⟩, ⟨by (with_reducible repeat (first | apply Kd.S_alloc | apply Kd.S_drewN | apply Kd.S_drew)); exact HO131.out⟩, ⟨by repeat (first | (with_reducible first | exact HB.out | apply below_alloc | apply pw_below_drewN | apply below_drew1) | exact HB.out)⟩⟩
  case round =>
    clear H'
    try clear c2
    try clear p2
    try clear c3
    obtain ⟨x3_1, x12_1, rfl, HA, HK1, HO_3, HB⟩ := hrel
    have hl3_1 := (Kd.S_reads' HO_3.out).1
    rw [hl3_1] at HO_3
    (try simp only [hl3_1])
    cases gk with
    | zero => exact absurd HA.out (by simp [chart_closed.l0])
    | succ k1 =>
      have H := HA.out
      clear HA
      simp only [chart_closed.l0] at H
      by_cases c5 : x12_1 < (t129.length : Int)
      · rw [if_pos c5] at H
        have c5b0 : decide (x12_1 < (t129.length : Int)) = true := decide_eq_true c5
        (try (have c5b0z3_1 := c5b0; rw [hl3_1] at c5b0z3_1))
        clear c5
        have H' := Aside0.mk H
        clear H
        go_wp2
        go_loopg [17] k1 (fun kq v17 w' => ∃ (x3_2 : List (List (S50))) (x17_2 : Int), v17 = .int .i64 x17_2 ∧ Aside0 (chart_closed.l1 kq x3_2 x12_1 (t129.length : Int) x12_1 (x3_1.length : Int) x17_2 = some r) ∧ Aside0 (kq ≤ k1) ∧ Aside0 (Kd.S (Kd.slice 50 k50) 48 w' w.heap.size (fun _ => True) (.slice Ao4 x3_1.length co4) x3_2) ∧ Aside0 (Below w.heap.size w w'))
        case atStart => exact ⟨(x3_1), (0), (by first | rfl | (simp; done) | (simp [*]; done)), H', ⟨Nat.le_refl _⟩, ⟨by (try simp only [hl3_1]); (with_reducible repeat (first | apply Kd.S_alloc | apply Kd.S_drewN | apply Kd.S_drew)); exact HO_3.out⟩, ⟨by repeat (first | (with_reducible first | exact HB.out | apply below_alloc | apply pw_below_drewN | apply below_drew1) | exact HB.out)⟩⟩
        case round =>
          clear H'
          try clear c2
          try clear p2
          try clear c3
          try clear c5
          try clear c5b0
          try clear p2
          obtain ⟨x3_2, x17_2, rfl, HA, HK2, HO_3, HB⟩ := hrel
          have hl3_2 := (Kd.S_reads' HO_3.out).1
          rw [hl3_2] at HO_3
          (try simp only [hl3_2])
          cases gk with
          | zero => exact absurd HA.out (by simp [chart_closed.l1])
          | succ k2 =>
            have H := HA.out
            clear HA
            simp only [chart_closed.l1] at H
            by_cases c6 : x17_2 < (x3_1.length : Int)
            · rw [if_pos c6] at H
              have c6b0 : decide (x17_2 < (x3_1.length : Int)) = true := decide_eq_true c6
              (try (have c6b0z3_1 := c6b0; rw [hl3_1] at c6b0z3_1))
              (try (have c6b0z3_2 := c6b0; rw [hl3_2] at c6b0z3_2))
              clear c6
              have H' := Aside0.mk H
              clear H
              go_wp2
              go_loopg [22] k2 (fun kq v22 w' => ∃ (x3_3 : List (List (S50))) (x22_3 : Int), v22 = .int .i64 x22_3 ∧ Aside0 (chart_closed.l2 kq x3_3 x12_1 x17_2 (t129.length : Int) x12_1 (x3_1.length : Int) x17_2 (x3_2.length : Int) x22_3 = some r) ∧ Aside0 (kq ≤ k2) ∧ Aside0 (Kd.S (Kd.slice 50 k50) 48 w' w.heap.size (fun _ => True) (.slice Ao4 x3_2.length co4) x3_3) ∧ Aside0 (Below w.heap.size w w'))
              case atStart => exact ⟨(x3_2), (0), (by first | rfl | (simp; done) | (simp [*]; done)), H', ⟨Nat.le_refl _⟩, ⟨by (try simp only [hl3_1]); (try simp only [hl3_2]); (with_reducible repeat (first | apply Kd.S_alloc | apply Kd.S_drewN | apply Kd.S_drew)); exact HO_3.out⟩, ⟨by repeat (first | (with_reducible first | exact HB.out | apply below_alloc | apply pw_below_drewN | apply below_drew1) | exact HB.out)⟩⟩
              case round =>
                clear H'
                try clear c2
                try clear p2
                try clear c3
                try clear c5
                try clear c5b0
                try clear c6
                try clear c6b0
                try clear p2
                obtain ⟨x3_3, x22_3, rfl, HA, HK3, HO_3, HB⟩ := hrel
                have hl3_3 := (Kd.S_reads' HO_3.out).1
                rw [hl3_3] at HO_3
                (try simp only [hl3_3])
                cases gk with
                | zero => exact absurd HA.out (by simp [chart_closed.l2])
                | succ k3 =>
                  have H := HA.out
                  clear HA
                  simp only [chart_closed.l2] at H
                  by_cases c7 : x22_3 < (x3_2.length : Int)
                  · rw [if_pos c7] at H
                    have c7b0 : decide (x22_3 < (x3_2.length : Int)) = true := decide_eq_true c7
                    (try (have c7b0z3_1 := c7b0; rw [hl3_1] at c7b0z3_1))
                    (try (have c7b0z3_2 := c7b0; rw [hl3_2] at c7b0z3_2))
                    (try (have c7b0z3_3 := c7b0; rw [hl3_3] at c7b0z3_3))
                    clear c7
                    by_cases c8 : 0 ≤ x17_2
                    · rw [if_pos c8] at H
                      have c8b0 : decide (0 ≤ x17_2) = true := decide_eq_true c8
                      clear c8
                      by_cases c9 : x17_2 < (x3_3.length : Int)
                      · rw [if_pos c9] at H
                        have c9b0 : decide (x17_2 < (x3_3.length : Int)) = true := decide_eq_true c9
                        (try (have c9b0z3_1 := c9b0; rw [hl3_1] at c9b0z3_1))
                        (try (have c9b0z3_2 := c9b0; rw [hl3_2] at c9b0z3_2))
                        (try (have c9b0z3_3 := c9b0; rw [hl3_3] at c9b0z3_3))
                        clear c9
                        by_cases c10 : 0 ≤ x12_1
                        · rw [if_pos c10] at H
                          have c10b0 : decide (0 ≤ x12_1) = true := decide_eq_true c10
                          clear c10
                          by_cases c11 : x12_1 < ((rd_L3 x3_3 x17_2).length : Int)
                          · rw [if_pos c11] at H
                            have c11b0 : decide (x12_1 < ((rd_L3 x3_3 x17_2).length : Int)) = true := decide_eq_true c11
                            (try (have c11b0z3_1 := c11b0; rw [hl3_1] at c11b0z3_1))
                            (try (have c11b0z3_2 := c11b0; rw [hl3_2] at c11b0z3_2))
                            (try (have c11b0z3_3 := c11b0; rw [hl3_3] at c11b0z3_3))
                            clear c11
                            by_cases c12 : x12_1 < (x3_3.length : Int)
                            · rw [if_pos c12] at H
                              have c12b0 : decide (x12_1 < (x3_3.length : Int)) = true := decide_eq_true c12
                              (try (have c12b0z3_1 := c12b0; rw [hl3_1] at c12b0z3_1))
                              (try (have c12b0z3_2 := c12b0; rw [hl3_2] at c12b0z3_2))
                              (try (have c12b0z3_3 := c12b0; rw [hl3_3] at c12b0z3_3))
                              clear c12
                              by_cases c13 : 0 ≤ x22_3
                              · rw [if_pos c13] at H
                                have c13b0 : decide (0 ≤ x22_3) = true := decide_eq_true c13
                                clear c13
                                by_cases c14 : x22_3 < ((rd_L3 x3_3 x12_1).length : Int)
                                · rw [if_pos c14] at H
                                  have c14b0 : decide (x22_3 < ((rd_L3 x3_3 x12_1).length : Int)) = true := decide_eq_true c14
                                  (try (have c14b0z3_1 := c14b0; rw [hl3_1] at c14b0z3_1))
                                  (try (have c14b0z3_2 := c14b0; rw [hl3_2] at c14b0z3_2))
                                  (try (have c14b0z3_3 := c14b0; rw [hl3_3] at c14b0z3_3))
                                  clear c14
                                  replace H := Option.bind_eq_some_iff.mp H
                                  obtain ⟨⟨t136, t137⟩, A150, H⟩ := H
                                  replace H : (if x22_3 < ((rd_L3 x3_3 x17_2).length : Int) then ((chart_leg_before.f t136 t137 ((rd_T50 (rd_L3 x3_3 x17_2) x22_3).f0) ((rd_T50 (rd_L3 x3_3 x17_2) x22_3).f1)).bind fun t141 => (if t141 = true then (chart_closed.l2 k3 (x3_3.set (x17_2 : Int).toNat ((rd_L3 x3_3 x17_2).set (x22_3 : Int).toNat (⟨t136, t137⟩ : S50))) x12_1 x17_2 (t129.length : Int) x12_1 (x3_1.length : Int) x17_2 (x3_2.length : Int) (wrap64 (x22_3 + 1))) else (chart_closed.l2 k3 x3_3 x12_1 x17_2 (t129.length : Int) x12_1 (x3_1.length : Int) x17_2 (x3_2.length : Int) (wrap64 (x22_3 + 1))))) else (none)) = some r := H
                                  have A15 := Aside0.mk A150
                                  clear A150
                                  by_cases c16 : x22_3 < ((rd_L3 x3_3 x17_2).length : Int)
                                  · rw [if_pos c16] at H
                                    have c16b0 : decide (x22_3 < ((rd_L3 x3_3 x17_2).length : Int)) = true := decide_eq_true c16
                                    (try (have c16b0z3_1 := c16b0; rw [hl3_1] at c16b0z3_1))
                                    (try (have c16b0z3_2 := c16b0; rw [hl3_2] at c16b0z3_2))
                                    (try (have c16b0z3_3 := c16b0; rw [hl3_3] at c16b0z3_3))
                                    clear c16
                                    replace H := Option.bind_eq_some_iff.mp H
                                    obtain ⟨t141, A170, H⟩ := H
                                    replace H : (if t141 = true then (chart_closed.l2 k3 (x3_3.set (x17_2 : Int).toNat ((rd_L3 x3_3 x17_2).set (x22_3 : Int).toNat (⟨t136, t137⟩ : S50))) x12_1 x17_2 (t129.length : Int) x12_1 (x3_1.length : Int) x17_2 (x3_2.length : Int) (wrap64 (x22_3 + 1))) else (chart_closed.l2 k3 x3_3 x12_1 x17_2 (t129.length : Int) x12_1 (x3_1.length : Int) x17_2 (x3_2.length : Int) (wrap64 (x22_3 + 1)))) = some r := H
                                    have A17 := Aside0.mk A170
                                    clear A170
                                    by_cases c18 : t141 = true
                                    · subst c18
                                      have H1 : (chart_closed.l2 k3 (x3_3.set (x17_2 : Int).toNat ((rd_L3 x3_3 x17_2).set (x22_3 : Int).toNat (⟨t136, t137⟩ : S50))) x12_1 x17_2 (t129.length : Int) x12_1 (x3_1.length : Int) x17_2 (x3_2.length : Int) (wrap64 (x22_3 + 1))) = some r := by rw [if_pos rfl] at H; exact H
                                      clear H
                                      have H := H1
                                      clear H1
                                      obtain ⟨y143, hy143⟩ : ∃ y_ : List (S50), y_ = ((rd_L3 x3_3 x17_2).set (x22_3 : Int).toNat (⟨t136, t137⟩ : S50)) := ⟨_, rfl⟩
                                      replace H : (chart_closed.l2 k3 (x3_3.set (x17_2 : Int).toNat y143) x12_1 x17_2 (t129.length : Int) x12_1 (x3_1.length : Int) x17_2 (x3_2.length : Int) (wrap64 (x22_3 + 1))) = some r := by first | (rw [hy143]; with_reducible exact H) | (have H2_ := (Option.bind_some _ _).symm.trans H; rw [hy143]; with_reducible exact H2_) | (have H2_ := (Option.bind_some _ _).symm.trans H; with_reducible exact H2_) | with_reducible exact H | (rw [hy143]; exact H) | exact H
                                      have Ny143 := Aside0.mk hy143
                                      clear hy143
                                      obtain ⟨y145, hy145⟩ : ∃ y_ : List (List (S50)), y_ = (x3_3.set (x17_2 : Int).toNat y143) := ⟨_, rfl⟩
                                      replace H : (chart_closed.l2 k3 y145 x12_1 x17_2 (t129.length : Int) x12_1 (x3_1.length : Int) x17_2 (x3_2.length : Int) (wrap64 (x22_3 + 1))) = some r := by first | (rw [hy145]; with_reducible exact H) | (have H2_ := (Option.bind_some _ _).symm.trans H; rw [hy145]; with_reducible exact H2_) | (have H2_ := (Option.bind_some _ _).symm.trans H; with_reducible exact H2_) | with_reducible exact H | (rw [hy145]; exact H) | exact H
                                      have Ny145 := Aside0.mk hy145
                                      clear hy145
                                      have H' := Aside0.mk H
                                      clear H
                                      try go_wp2
                                      have n0_ := Aside0.mk (Kd.S_drew HO_3.out)
                                      have n1_ := Aside0.mk (below_drew1 HB.out)
                                      clear HO_3
                                      clear HB
                                      have HO_3 := n0_
                                      have HB := n1_
                                      clear n0_ n1_
                                      have p132 : 0 ≤ (x17_2 : Int) := of_decide_eq_true (by first | (with_reducible assumption) | assumption)
                                      have q132 : x17_2 < (x3_3.length : Int) := of_decide_eq_true (by first | (with_reducible assumption) | assumption)
                                      obtain ⟨ad132, A132_0, c132_0, e132, hx132_0, hl132_0, hi132_0⟩ := at_L3 (Kd.S_reads' HO_3.out).2.2 x17_2 p132 q132
                                      cases e132
                                      obtain ⟨ce132, hce132, hMe132, hcc132⟩ := Kd.S_get HO_3.out [] x17_2 p132 (by first | exact q132 | exact of_decide_eq_true (by first | (with_reducible assumption) | assumption) | (have e_ := (Kd.S_reads' HO_3.out).1; omega))
                                      obtain ⟨ve132_0, rfl, ge132_0⟩ := hMe132
                                      have hv132_0 := hcc132 0 _ rfl
                                      rw [Nat.add_zero, show ((Kd.slice 50 k50)).sz = 1 from rfl, Nat.mul_one] at hv132_0
                                      replace hv132_0 := Option.some.inj (hv132_0.symm.trans hx132_0)
                                      rw [hv132_0] at ge132_0
                                      have HL132_0 := Aside0.mk (show Kd.R k50 50 _ _ _ _ (rd_L3 x3_3 x17_2) from ge132_0)
                                      clear hv132_0 ge132_0
                                      have HX132_0 := Aside0.mk hx132_0
                                      clear hcc132 hce132
                                      have HR132_0 := Aside0.mk hi132_0
                                      have HC132_0 := Aside0.mk hl132_0
                                      clear hi132_0 hl132_0
                                      replace p132 := eq_true p132
                                      replace q132 := eq_true q132
                                      have p133 : 0 ≤ (x12_1 : Int) := of_decide_eq_true (by first | (with_reducible assumption) | assumption)
                                      have q133 : x12_1 < ((rd_L3 x3_3 x17_2).length : Int) := of_decide_eq_true (by first | (with_reducible assumption) | assumption)
                                      obtain ⟨ad133, e133, hx133_0, hx133_1⟩ := at_T50 (by repeat (first | (with_reducible exact HR132_0.out) | (with_reducible refine Kd.C_alloc ?_ _) | (with_reducible refine Kd.C_drewN ?_ _) | (with_reducible refine Kd.C_drew ?_) | exact HR132_0.out)) x12_1 p133 q133
                                      cases e133
                                      replace p133 := eq_true p133
                                      replace q133 := eq_true q133
                                      have p134 : 0 ≤ (x12_1 : Int) := of_decide_eq_true (by first | (with_reducible assumption) | assumption)
                                      have q134 : x12_1 < (x3_3.length : Int) := of_decide_eq_true (by first | (with_reducible assumption) | assumption)
                                      obtain ⟨ad134, A134_0, c134_0, e134, hx134_0, hl134_0, hi134_0⟩ := at_L3 (Kd.S_reads' HO_3.out).2.2 x12_1 p134 q134
                                      obtain rfl : ad132 = ad134 := (by injection e134)
                                      obtain ⟨ce134, hce134, hMe134, hcc134⟩ := Kd.S_get HO_3.out [] x12_1 p134 (by first | exact q134 | exact of_decide_eq_true (by first | (with_reducible assumption) | assumption) | (have e_ := (Kd.S_reads' HO_3.out).1; omega))
                                      obtain ⟨ve134_0, rfl, ge134_0⟩ := hMe134
                                      have hv134_0 := hcc134 0 _ rfl
                                      rw [Nat.add_zero, show ((Kd.slice 50 k50)).sz = 1 from rfl, Nat.mul_one] at hv134_0
                                      replace hv134_0 := Option.some.inj (hv134_0.symm.trans hx134_0)
                                      rw [hv134_0] at ge134_0
                                      have HL134_0 := Aside0.mk (show Kd.R k50 50 _ _ _ _ (rd_L3 x3_3 x12_1) from ge134_0)
                                      clear hv134_0 ge134_0
                                      have HX134_0 := Aside0.mk hx134_0
                                      clear hcc134 hce134
                                      have HR134_0 := Aside0.mk hi134_0
                                      have HC134_0 := Aside0.mk hl134_0
                                      clear hi134_0 hl134_0
                                      replace p134 := eq_true p134
                                      replace q134 := eq_true q134
                                      have p135 : 0 ≤ (x22_3 : Int) := of_decide_eq_true (by first | (with_reducible assumption) | assumption)
                                      have q135 : x22_3 < ((rd_L3 x3_3 x12_1).length : Int) := of_decide_eq_true (by first | (with_reducible assumption) | assumption)
                                      obtain ⟨ad135, e135, hx135_0, hx135_1⟩ := at_T50 (by repeat (first | (with_reducible exact HR134_0.out) | (with_reducible refine Kd.C_alloc ?_ _) | (with_reducible refine Kd.C_drewN ?_ _) | (with_reducible refine Kd.C_drew ?_) | exact HR134_0.out)) x22_3 p135 q135
                                      cases e135
                                      replace p135 := eq_true p135
                                      replace q135 := eq_true q135
                                      refine start_ (n := 17) (S := fun w' => w'.cell? (ad132.add (x17_2).toNat) = some (.slice (some ad133) (rd_L3 x3_3 x17_2).length c132_0) ∧ w'.cell? (ad133.add ((x12_1).toNat * 2)) = some (.int .i64 ((rd_T50 (rd_L3 x3_3 x17_2) x12_1).f0)) ∧ w'.cell? ⟨(ad133.add ((x12_1).toNat * 2)).block, (ad133.add ((x12_1).toNat * 2)).off + 1, none⟩ = some (.int .i64 ((rd_T50 (rd_L3 x3_3 x17_2) x12_1).f1)) ∧ w'.cell? (ad132.add (x12_1).toNat) = some (.slice (some ad135) (rd_L3 x3_3 x12_1).length c134_0) ∧ w'.cell? (ad135.add ((x22_3).toNat * 2)) = some (.int .i64 ((rd_T50 (rd_L3 x3_3 x12_1) x22_3).f0)) ∧ w'.cell? ⟨(ad135.add ((x22_3).toNat * 2)).block, (ad135.add ((x22_3).toNat * 2)).off + 1, none⟩ = some (.int .i64 ((rd_T50 (rd_L3 x3_3 x12_1) x22_3).f1))) (ds := []) #[false, false, false, false, false, false, false, false, false, false, false, false, false, false, false, false, false] (by kernel_rfl) rfl rfl ⟨hx132_0, hx133_0, hx133_1, hx134_0, hx135_0, hx135_1⟩ (fun hHeld => ?_); refine with_tabW chart_closed.tab11 chart_closed.bits11 (fun HT_ HW_ => ?_)
                                      generalize wr.drew = w20 at HO_3 HB HL132_0 HL134_0 HR132_0 HR134_0 HX132_0 HX134_0 hx132_0 hx133_0 hx133_1 hx134_0 hx135_0 hx135_1 hHeld ⊢
                                      refine pure_ (i := 0) (N := some 25) (v := ?_) (a' := ?_) #[true, false, false, false, false, false, false, false, false, false, false, false, false, false, false, false, false] rfl rfl (any_of HT_.out (by kernel_rfl)) (fun _ _ _ h => h) (Or.inl ⟨by rfl, ?_⟩) ?_ ?_
                                      rotate_left
                                      · intro w'
                                        go_simp
                                        with_reducible rfl
                                      rotate_left
                                      · simp only [Act.put, List.setIfInBounds_toArray, List.set_cons_zero, List.set_cons_succ, i64_w, i32_w]
                                        rfl
                                      refine pure_ (i := 1) (N := some 26) (v := ?_) (a' := ?_) #[true, true, false, false, false, false, false, false, false, false, false, false, false, false, false, false, false] rfl rfl (any_of HT_.out (by kernel_rfl)) (fun _ _ _ h => h) (Or.inl ⟨by rfl, ?_⟩) ?_ ?_
                                      rotate_left
                                      · intro w'
                                        go_simp
                                        with_reducible rfl
                                      rotate_left
                                      · simp only [Act.put, List.setIfInBounds_toArray, List.set_cons_zero, List.set_cons_succ, i64_w, i32_w]
                                        rfl
                                      refine pure_ (i := 2) (N := some 27) (v := ?_) (a' := ?_) #[true, true, true, false, false, false, false, false, false, false, false, false, false, false, false, false, false] rfl rfl (any_of HT_.out (by kernel_rfl)) (fun _ _ _ h => h) (Or.inl ⟨by rfl, ?_⟩) ?_ ?_
                                      rotate_left
                                      · intro w'
                                        go_simp
                                        with_reducible rfl
                                      rotate_left
                                      · simp only [Act.put, List.setIfInBounds_toArray, List.set_cons_zero, List.set_cons_succ, i64_w, i32_w]
                                        rfl
                                      refine pure_ (i := 4) (N := some 29) (v := ?_) (a' := ?_) #[true, true, true, false, true, false, false, false, false, false, false, false, false, false, false, false, false] rfl rfl (any_of HT_.out (by kernel_rfl)) (fun _ _ _ h => h) (Or.inl ⟨by rfl, ?_⟩) ?_ ?_
                                      rotate_left
                                      · intro w'
                                        go_simp
                                        with_reducible rfl
                                      rotate_left
                                      · simp only [Act.put, List.setIfInBounds_toArray, List.set_cons_zero, List.set_cons_succ, i64_w, i32_w]
                                        rfl
                                      refine pure_ (i := 7) (N := some 32) (v := ?_) (a' := ?_) #[true, true, true, false, true, false, false, true, false, false, false, false, false, false, false, false, false] rfl rfl (any_of HT_.out (by kernel_rfl)) (fun _ _ _ h => h) (Or.inl ⟨by rfl, ?_⟩) ?_ ?_
                                      rotate_left
                                      · intro w'
                                        go_simp
                                        with_reducible rfl
                                      rotate_left
                                      · simp only [Act.put, List.setIfInBounds_toArray, List.set_cons_zero, List.set_cons_succ, i64_w, i32_w]
                                        rfl
                                      refine pure_ (i := 8) (N := some 33) (v := ?_) (a' := ?_) #[true, true, true, false, true, false, false, true, true, false, false, false, false, false, false, false, false] rfl rfl (any_of HT_.out (by kernel_rfl)) (fun _ _ _ h => h) (Or.inl ⟨by rfl, ?_⟩) ?_ ?_
                                      rotate_left
                                      · intro w'
                                        go_simp
                                        with_reducible rfl
                                      rotate_left
                                      · simp only [Act.put, List.setIfInBounds_toArray, List.set_cons_zero, List.set_cons_succ, i64_w, i32_w]
                                        rfl
                                      refine pure_ (i := 9) (N := some 34) (v := ?_) (a' := ?_) #[true, true, true, false, true, false, false, true, true, true, false, false, false, false, false, false, false] rfl rfl (any_of HT_.out (by kernel_rfl)) (fun _ _ _ h => h) (Or.inl ⟨by rfl, ?_⟩) ?_ ?_
                                      rotate_left
                                      · intro w'
                                        go_simp
                                        with_reducible rfl
                                      rotate_left
                                      · simp only [Act.put, List.setIfInBounds_toArray, List.set_cons_zero, List.set_cons_succ, i64_w, i32_w]
                                        rfl
                                      refine pure_ (i := 11) (N := some 36) (v := ?_) (a' := ?_) #[true, true, true, false, true, false, false, true, true, true, false, true, false, false, false, false, false] rfl rfl (any_of HT_.out (by kernel_rfl)) (fun _ _ _ h => h) (Or.inl ⟨by rfl, ?_⟩) ?_ ?_
                                      rotate_left
                                      · intro w'
                                        go_simp
                                        with_reducible rfl
                                      rotate_left
                                      · simp only [Act.put, List.setIfInBounds_toArray, List.set_cons_zero, List.set_cons_succ, i64_w, i32_w]
                                        rfl
                                      refine take_ (i := 3) (N := some 28) (v := ?_) (a' := ?_) #[true, true, true, true, true, false, false, true, true, true, false, true, false, false, false, false, false] rfl rfl (take_ofW HT_.out HW_.out (by kernel_rfl)) (fun _ _ _ h => h) (Or.inl ⟨by rfl, ?_⟩) hHeld ?_ ?_
                                      rotate_left
                                      · rintro w' ⟨s0, s1, s2, s3, s4, s5⟩
                                        go_simp
                                        with_reducible rfl
                                      rotate_left
                                      · simp only [Act.put, List.setIfInBounds_toArray, List.set_cons_zero, List.set_cons_succ, i64_w, i32_w]
                                        rfl
                                      refine pure_ (i := 5) (N := some 30) (v := ?_) (a' := ?_) #[true, true, true, true, true, true, false, true, true, true, false, true, false, false, false, false, false] rfl rfl (any_of HT_.out (by kernel_rfl)) (fun _ _ _ h => h) (Or.inl ⟨by rfl, ?_⟩) ?_ ?_
                                      rotate_left
                                      · intro w'
                                        go_simp
                                        with_reducible rfl
                                      rotate_left
                                      · simp only [Act.put, List.setIfInBounds_toArray, List.set_cons_zero, List.set_cons_succ, i64_w, i32_w]
                                        rfl
                                      refine take_ (i := 6) (N := some 31) (v := ?_) (a' := ?_) #[true, true, true, true, true, true, true, true, true, true, false, true, false, false, false, false, false] rfl rfl (take_ofW HT_.out HW_.out (by kernel_rfl)) (fun _ _ _ h => h) (Or.inl ⟨by rfl, ?_⟩) hHeld ?_ ?_
                                      rotate_left
                                      · rintro w' ⟨s0, s1, s2, s3, s4, s5⟩
                                        go_simp
                                        with_reducible rfl
                                      rotate_left
                                      · simp only [Act.put, List.setIfInBounds_toArray, List.set_cons_zero, List.set_cons_succ, i64_w, i32_w]
                                        rfl
                                      refine take_ (i := 10) (N := some 35) (v := ?_) (a' := ?_) #[true, true, true, true, true, true, true, true, true, true, true, true, false, false, false, false, false] rfl rfl (take_ofW HT_.out HW_.out (by kernel_rfl)) (fun _ _ _ h => h) (Or.inl ⟨by rfl, ?_⟩) hHeld ?_ ?_
                                      rotate_left
                                      · rintro w' ⟨s0, s1, s2, s3, s4, s5⟩
                                        go_simp
                                        with_reducible rfl
                                      rotate_left
                                      · simp only [Act.put, List.setIfInBounds_toArray, List.set_cons_zero, List.set_cons_succ, i64_w, i32_w]
                                        rfl
                                      refine pure_ (i := 12) (N := some 37) (v := ?_) (a' := ?_) #[true, true, true, true, true, true, true, true, true, true, true, true, true, false, false, false, false] rfl rfl (any_of HT_.out (by kernel_rfl)) (fun _ _ _ h => h) (Or.inl ⟨by rfl, ?_⟩) ?_ ?_
                                      rotate_left
                                      · intro w'
                                        go_simp
                                        with_reducible rfl
                                      rotate_left
                                      · simp only [Act.put, List.setIfInBounds_toArray, List.set_cons_zero, List.set_cons_succ, i64_w, i32_w]
                                        rfl
                                      refine take_ (i := 13) (N := some 38) (v := ?_) (a' := ?_) #[true, true, true, true, true, true, true, true, true, true, true, true, true, true, false, false, false] rfl rfl (take_ofW HT_.out HW_.out (by kernel_rfl)) (fun _ _ _ h => h) (Or.inl ⟨by rfl, ?_⟩) hHeld ?_ ?_
                                      rotate_left
                                      · rintro w' ⟨s0, s1, s2, s3, s4, s5⟩
                                        go_simp
                                        with_reducible rfl
                                      rotate_left
                                      · simp only [Act.put, List.setIfInBounds_toArray, List.set_cons_zero, List.set_cons_succ, i64_w, i32_w]
                                        rfl
                                      refine join_ (σ := Nat) 1 #[true, true, true, true, true, true, true, true, true, true, true, true, true, true, true, true, false] (fun s_ => [(39, .agg #[.int .i64 t136, .int .i64 t137]), (7, .pointer (some ⟨s_, 0, none⟩))]) (fun s_ w' => (w'.cell? (ad132.add (x17_2).toNat) = some (.slice (some ad133) (rd_L3 x3_3 x17_2).length c132_0) ∧ w'.cell? (ad133.add ((x12_1).toNat * 2)) = some (.int .i64 ((rd_T50 (rd_L3 x3_3 x17_2) x12_1).f0)) ∧ w'.cell? ⟨(ad133.add ((x12_1).toNat * 2)).block, (ad133.add ((x12_1).toNat * 2)).off + 1, none⟩ = some (.int .i64 ((rd_T50 (rd_L3 x3_3 x17_2) x12_1).f1)) ∧ w'.cell? (ad132.add (x12_1).toNat) = some (.slice (some ad135) (rd_L3 x3_3 x12_1).length c134_0) ∧ w'.cell? (ad135.add ((x22_3).toNat * 2)) = some (.int .i64 ((rd_T50 (rd_L3 x3_3 x12_1) x22_3).f0)) ∧ w'.cell? ⟨(ad135.add ((x22_3).toNat * 2)).block, (ad135.add ((x22_3).toNat * 2)).off + 1, none⟩ = some (.int .i64 ((rd_T50 (rd_L3 x3_3 x12_1) x22_3).f1))) ∧ (Kd.R k50 50 w' w.heap.size (fun k_ => some k_ ≠ (.slice (some ad132) x3_3.length co4 : Value).ownBlock ∧ k_ ≠ s_) (.slice (some ad133) (rd_L3 x3_3 x17_2).length c132_0) (rd_L3 x3_3 x17_2)) ∧ (Kd.R k50 50 w' w.heap.size (fun k_ => some k_ ≠ (.slice (some ad132) x3_3.length co4 : Value).ownBlock ∧ k_ ≠ s_) (.slice (some ad135) (rd_L3 x3_3 x12_1).length c134_0) (rd_L3 x3_3 x12_1)) ∧ (Kd.S (Kd.slice 50 k50) 48 w' w.heap.size (fun k_ => k_ ≠ s_) (.slice (some ad132) x3_3.length co4) x3_3) ∧ (w'.cell? (ad132.add (x17_2).toNat) = some (.slice (some ad133) (rd_L3 x3_3 x17_2).length c132_0)) ∧ (w'.cell? (ad132.add (x12_1).toNat) = some (.slice (some ad135) (rd_L3 x3_3 x12_1).length c134_0)) ∧ (w'.heap[s_]? = some (.cells #[.int .i64 0, .int .i64 0] 50 (0, 0))) ∧ (w.heap.size ≤ s_) ∧ (w.heap.size ≤ s_) ∧ (Below w.heap.size w w')) ?_ ?_
                                      rotate_left
                                      · intro hCont
                                        refine two_ (i := 14) (j := 15) (Ni := some 39) (Nj := some 7) #[true, true, true, true, true, true, true, true, true, true, true, true, true, true, true, false, false] #[true, true, true, true, true, true, true, true, true, true, true, true, true, true, false, true, false] rfl rfl rfl rfl (two_of HT_.out (by kernel_rfl)) (by decide) (by decide) (fun K hK => ?_) (fun K hK => ?_)
                                        · skip
                                          refine goes_ Try.func26 (by kernel_rfl) rfl #[.agg #[.int .i64 ((rd_T50 (rd_L3 x3_3 x17_2) x12_1).f0), .int .i64 ((rd_T50 (rd_L3 x3_3 x17_2) x12_1).f1)], .agg #[.int .i64 ((rd_T50 (rd_L3 x3_3 x12_1) x22_3).f0), .int .i64 ((rd_T50 (rd_L3 x3_3 x12_1) x22_3).f1)]] (by rfl) rfl rfl (by (try simp only [List.map_toArray, List.map_cons, List.map_nil]); first | done | rfl | (simp only [List.length_drop, List.length_take]; rfl)) ?_
                                          with_reducible refine (chart_leg_and.calls ((rd_T50 (rd_L3 x3_3 x17_2) x12_1).f0) ((rd_T50 (rd_L3 x3_3 x17_2) x12_1).f1) ((rd_T50 (rd_L3 x3_3 x12_1) x22_3).f0) ((rd_T50 (rd_L3 x3_3 x12_1) x22_3).f1) t136 t137 _ A15.out).mono ?_
                                          rintro e w21 ⟨rfl, hb⟩
                                          have HS0_ := (hb.cell (World.block_lt_of_cell? _ _ (hHeld.1))).trans (hHeld.1)
                                          have HS1_ := (hb.cell (World.block_lt_of_cell? _ _ (hHeld.2.1))).trans (hHeld.2.1)
                                          have HS2_ := (hb.cell (World.block_lt_of_cell? _ _ (hHeld.2.2.1))).trans (hHeld.2.2.1)
                                          have HS3_ := (hb.cell (World.block_lt_of_cell? _ _ (hHeld.2.2.2.1))).trans (hHeld.2.2.2.1)
                                          have HS4_ := (hb.cell (World.block_lt_of_cell? _ _ (hHeld.2.2.2.2.1))).trans (hHeld.2.2.2.2.1)
                                          have HS5_ := (hb.cell (World.block_lt_of_cell? _ _ (hHeld.2.2.2.2.2))).trans (hHeld.2.2.2.2.2)
                                          refine ⟨_, rfl, ?_⟩
                                          have n0_ := Aside0.mk (Kd.S_below (by (with_reducible repeat (first | apply Kd.S_alloc | apply Kd.S_drewN | apply Kd.S_drew)); exact HO_3.out) hb)
                                          have n1_ := Aside0.mk (Kd.R_below (by (with_reducible repeat (first | apply Kd.R_alloc | apply Kd.R_drewN | apply Kd.R_drew)); exact HL132_0.out) hb)
                                          have n2_ := Aside0.mk (Kd.R_below (by (with_reducible repeat (first | apply Kd.R_alloc | apply Kd.R_drewN | apply Kd.R_drew)); exact HL134_0.out) hb)
                                          have n3_ := Aside0.mk (Kd.C_below (by repeat (first | (with_reducible exact HR132_0.out) | (with_reducible refine Kd.C_alloc ?_ _) | (with_reducible refine Kd.C_drewN ?_ _) | (with_reducible refine Kd.C_drew ?_) | exact HR132_0.out)) hb)
                                          have n4_ := Aside0.mk (pw_cell_below hb HX132_0.out)
                                          have n5_ := Aside0.mk (Kd.C_below (by repeat (first | (with_reducible exact HR134_0.out) | (with_reducible refine Kd.C_alloc ?_ _) | (with_reducible refine Kd.C_drewN ?_ _) | (with_reducible refine Kd.C_drew ?_) | exact HR134_0.out)) hb)
                                          have n6_ := Aside0.mk (pw_cell_below hb HX134_0.out)
                                          have n7_ := Aside0.mk (below_step (by repeat (first | (with_reducible first | exact HB.out | apply below_alloc | apply pw_below_drewN | apply below_drew1) | exact HB.out)) hb)
                                          clear HO_3
                                          clear HL132_0
                                          clear HL134_0
                                          clear HR132_0
                                          clear HX132_0
                                          clear HR134_0
                                          clear HX134_0
                                          clear HB
                                          have HO_3 := n0_
                                          have HL132_0 := n1_
                                          have HL134_0 := n2_
                                          have HR132_0 := n3_
                                          have HX132_0 := n4_
                                          have HR134_0 := n5_
                                          have HX134_0 := n6_
                                          have HB := n7_
                                          clear n0_ n1_ n2_ n3_ n4_ n5_ n6_ n7_
                                          (try clear hb)
                                          (try clear hb2)
                                          (try clear hk)
                                          (try clear hi)
                                          refine hK.out _ _ ⟨HS0_, HS1_, HS2_, HS3_, HS4_, HS5_⟩ (fun hHeld => ?_)
                                          clear hK K
                                          refine norm_ (a' := ?_) ?_ ?_
                                          rotate_left
                                          · show Act.put _ (some 39) _ = _
                                            simp only [Act.put, List.setIfInBounds_toArray, List.set_cons_zero, List.set_cons_succ, i64_w, i32_w]
                                            rfl
                                          refine one_ (i := 15) (N := some 7) #[true, true, true, true, true, true, true, true, true, true, true, true, true, true, true, true, false] rfl rfl (one_of HT_.out (by kernel_rfl)) (by decide) (fun K hK => ?_)
                                          refine box_step ?hg (N := 7) ?hd (cs := #[.int .i64 0, .int .i64 0]) (t := 50) ?hr ?_; (case hd => rfl); (case hg => rfl); (case hr => first | (go_simp; done) | (go_simp; rfl))
                                          intro gb138 hg w22 hbox hb
                                          have HS0_ := (hb.cell (World.block_lt_of_cell? _ _ (hHeld.1))).trans (hHeld.1)
                                          have HS1_ := (hb.cell (World.block_lt_of_cell? _ _ (hHeld.2.1))).trans (hHeld.2.1)
                                          have HS2_ := (hb.cell (World.block_lt_of_cell? _ _ (hHeld.2.2.1))).trans (hHeld.2.2.1)
                                          have HS3_ := (hb.cell (World.block_lt_of_cell? _ _ (hHeld.2.2.2.1))).trans (hHeld.2.2.2.1)
                                          have HS4_ := (hb.cell (World.block_lt_of_cell? _ _ (hHeld.2.2.2.2.1))).trans (hHeld.2.2.2.2.1)
                                          have HS5_ := (hb.cell (World.block_lt_of_cell? _ _ (hHeld.2.2.2.2.2))).trans (hHeld.2.2.2.2.2)
                                          have n0_ := Aside0.mk (Kd.S_below (Kd.S_elderB (by (with_reducible repeat (first | apply Kd.S_alloc | apply Kd.S_drewN | apply Kd.S_drew)); exact HO_3.out) gb138 (Nat.le_of_eq hg.symm)) hb)
                                          have n1_ := Aside0.mk (Kd.R_below (Kd.R_elderB (by (with_reducible repeat (first | apply Kd.R_alloc | apply Kd.R_drewN | apply Kd.R_drew)); exact HL132_0.out) gb138 (Nat.le_of_eq hg.symm)) hb)
                                          have n2_ := Aside0.mk (Kd.R_below (Kd.R_elderB (by (with_reducible repeat (first | apply Kd.R_alloc | apply Kd.R_drewN | apply Kd.R_drew)); exact HL134_0.out) gb138 (Nat.le_of_eq hg.symm)) hb)
                                          have n3_ := Aside0.mk (Kd.C_below (by repeat (first | (with_reducible exact HR132_0.out) | (with_reducible refine Kd.C_alloc ?_ _) | (with_reducible refine Kd.C_drewN ?_ _) | (with_reducible refine Kd.C_drew ?_) | exact HR132_0.out)) hb)
                                          have n4_ := Aside0.mk (pw_cell_below hb HX132_0.out)
                                          have n5_ := Aside0.mk (Kd.C_below (by repeat (first | (with_reducible exact HR134_0.out) | (with_reducible refine Kd.C_alloc ?_ _) | (with_reducible refine Kd.C_drewN ?_ _) | (with_reducible refine Kd.C_drew ?_) | exact HR134_0.out)) hb)
                                          have n6_ := Aside0.mk (pw_cell_below hb HX134_0.out)
                                          have n7_ := Aside0.mk (below_step (by repeat (first | (with_reducible first | exact HB.out | apply below_alloc | apply pw_below_drewN | apply below_drew1) | exact HB.out)) hb)
                                          have n8_ := Aside0.mk (hbox)
                                          have n9_ := Aside0.mk ((by rw [hg]; exact (below_size (by repeat (first | (with_reducible first | exact HB.out | apply below_alloc | apply pw_below_drewN | apply below_drew1) | exact HB.out))) : w.heap.size ≤ gb138))
                                          have n10_ := Aside0.mk ((by rw [hg]; exact (below_size (by repeat (first | (with_reducible first | exact HB.out | apply below_alloc | apply pw_below_drewN | apply below_drew1) | exact HB.out))) : w.heap.size ≤ gb138))
                                          clear HO_3
                                          clear HL132_0
                                          clear HL134_0
                                          clear HR132_0
                                          clear HX132_0
                                          clear HR134_0
                                          clear HX134_0
                                          clear HB
                                          have HO_3 := n0_
                                          have HL132_0 := n1_
                                          have HL134_0 := n2_
                                          have HR132_0 := n3_
                                          have HX132_0 := n4_
                                          have HR134_0 := n5_
                                          have HX134_0 := n6_
                                          have HB := n7_
                                          have BK138 := n8_
                                          have GW138 := n9_
                                          have GE138 := n10_
                                          clear n0_ n1_ n2_ n3_ n4_ n5_ n6_ n7_ n8_ n9_ n10_
                                          clear hb hbox hg
                                          refine hK.out _ _ ⟨HS0_, HS1_, HS2_, HS3_, HS4_, HS5_⟩ (fun hHeld => ?_)
                                          clear hK K
                                          refine norm_ (a' := ?_) ?_ ?_
                                          rotate_left
                                          · show Act.put _ (some 7) _ = _
                                            simp only [Act.put, List.setIfInBounds_toArray, List.set_cons_zero, List.set_cons_succ, i64_w, i32_w]
                                            rfl
                                          exact norm_ (by simp only [putAll, Act.put, List.setIfInBounds_toArray, List.set_cons_zero, List.set_cons_succ]) (hCont (gb138) _ ⟨hHeld, (by (with_reducible repeat (first | apply Kd.R_alloc | apply Kd.R_drewN | apply Kd.R_drew)); exact Kd.R_mono HL132_0.out (fun _ hk => ⟨hk.1.2, hk.2⟩)), (by (with_reducible repeat (first | apply Kd.R_alloc | apply Kd.R_drewN | apply Kd.R_drew)); exact Kd.R_mono HL134_0.out (fun _ hk => ⟨hk.1.2, hk.2⟩)), (by (with_reducible repeat (first | apply Kd.S_alloc | apply Kd.S_drewN | apply Kd.S_drew)); exact Kd.S_mono HO_3.out (fun _ hk => hk.2)), HX132_0.out, HX134_0.out, (by (with_reducible repeat (first | refine blk_drewN ?_ _ | refine blk_drew ?_ | refine blk_alloc ?_ _)); exact BK138.out), GW138.out, GE138.out, (by repeat (first | (with_reducible first | exact HB.out | apply below_alloc | apply pw_below_drewN | apply below_drew1 | refine below_set ?_ GE138.out) | exact HB.out))⟩)
                                        · skip
                                          refine box_step ?hg (N := 7) ?hd (cs := #[.int .i64 0, .int .i64 0]) (t := 50) ?hr ?_; (case hd => rfl); (case hg => rfl); (case hr => first | (go_simp; done) | (go_simp; rfl))
                                          intro gb138 hg w21 hbox hb
                                          have HS0_ := (hb.cell (World.block_lt_of_cell? _ _ (hHeld.1))).trans (hHeld.1)
                                          have HS1_ := (hb.cell (World.block_lt_of_cell? _ _ (hHeld.2.1))).trans (hHeld.2.1)
                                          have HS2_ := (hb.cell (World.block_lt_of_cell? _ _ (hHeld.2.2.1))).trans (hHeld.2.2.1)
                                          have HS3_ := (hb.cell (World.block_lt_of_cell? _ _ (hHeld.2.2.2.1))).trans (hHeld.2.2.2.1)
                                          have HS4_ := (hb.cell (World.block_lt_of_cell? _ _ (hHeld.2.2.2.2.1))).trans (hHeld.2.2.2.2.1)
                                          have HS5_ := (hb.cell (World.block_lt_of_cell? _ _ (hHeld.2.2.2.2.2))).trans (hHeld.2.2.2.2.2)
                                          have n0_ := Aside0.mk (Kd.S_below (Kd.S_elderB (by (with_reducible repeat (first | apply Kd.S_alloc | apply Kd.S_drewN | apply Kd.S_drew)); exact HO_3.out) gb138 (Nat.le_of_eq hg.symm)) hb)
                                          have n1_ := Aside0.mk (Kd.R_below (Kd.R_elderB (by (with_reducible repeat (first | apply Kd.R_alloc | apply Kd.R_drewN | apply Kd.R_drew)); exact HL132_0.out) gb138 (Nat.le_of_eq hg.symm)) hb)
                                          have n2_ := Aside0.mk (Kd.R_below (Kd.R_elderB (by (with_reducible repeat (first | apply Kd.R_alloc | apply Kd.R_drewN | apply Kd.R_drew)); exact HL134_0.out) gb138 (Nat.le_of_eq hg.symm)) hb)
                                          have n3_ := Aside0.mk (Kd.C_below (by repeat (first | (with_reducible exact HR132_0.out) | (with_reducible refine Kd.C_alloc ?_ _) | (with_reducible refine Kd.C_drewN ?_ _) | (with_reducible refine Kd.C_drew ?_) | exact HR132_0.out)) hb)
                                          have n4_ := Aside0.mk (pw_cell_below hb HX132_0.out)
                                          have n5_ := Aside0.mk (Kd.C_below (by repeat (first | (with_reducible exact HR134_0.out) | (with_reducible refine Kd.C_alloc ?_ _) | (with_reducible refine Kd.C_drewN ?_ _) | (with_reducible refine Kd.C_drew ?_) | exact HR134_0.out)) hb)
                                          have n6_ := Aside0.mk (pw_cell_below hb HX134_0.out)
                                          have n7_ := Aside0.mk (below_step (by repeat (first | (with_reducible first | exact HB.out | apply below_alloc | apply pw_below_drewN | apply below_drew1) | exact HB.out)) hb)
                                          have n8_ := Aside0.mk (hbox)
                                          have n9_ := Aside0.mk ((by rw [hg]; exact (below_size (by repeat (first | (with_reducible first | exact HB.out | apply below_alloc | apply pw_below_drewN | apply below_drew1) | exact HB.out))) : w.heap.size ≤ gb138))
                                          have n10_ := Aside0.mk ((by rw [hg]; exact (below_size (by repeat (first | (with_reducible first | exact HB.out | apply below_alloc | apply pw_below_drewN | apply below_drew1) | exact HB.out))) : w.heap.size ≤ gb138))
                                          clear HO_3
                                          clear HL132_0
                                          clear HL134_0
                                          clear HR132_0
                                          clear HX132_0
                                          clear HR134_0
                                          clear HX134_0
                                          clear HB
                                          have HO_3 := n0_
                                          have HL132_0 := n1_
                                          have HL134_0 := n2_
                                          have HR132_0 := n3_
                                          have HX132_0 := n4_
                                          have HR134_0 := n5_
                                          have HX134_0 := n6_
                                          have HB := n7_
                                          have BK138 := n8_
                                          have GW138 := n9_
                                          have GE138 := n10_
                                          clear n0_ n1_ n2_ n3_ n4_ n5_ n6_ n7_ n8_ n9_ n10_
                                          clear hb hbox hg
                                          refine hK.out _ _ ⟨HS0_, HS1_, HS2_, HS3_, HS4_, HS5_⟩ (fun hHeld => ?_)
                                          clear hK K
                                          refine norm_ (a' := ?_) ?_ ?_
                                          rotate_left
                                          · show Act.put _ (some 7) _ = _
                                            simp only [Act.put, List.setIfInBounds_toArray, List.set_cons_zero, List.set_cons_succ, i64_w, i32_w]
                                            rfl
                                          refine one_ (i := 14) (N := some 39) #[true, true, true, true, true, true, true, true, true, true, true, true, true, true, true, true, false] rfl rfl (one_of HT_.out (by kernel_rfl)) (by decide) (fun K hK => ?_)
                                          refine goes_ Try.func26 (by kernel_rfl) rfl #[.agg #[.int .i64 ((rd_T50 (rd_L3 x3_3 x17_2) x12_1).f0), .int .i64 ((rd_T50 (rd_L3 x3_3 x17_2) x12_1).f1)], .agg #[.int .i64 ((rd_T50 (rd_L3 x3_3 x12_1) x22_3).f0), .int .i64 ((rd_T50 (rd_L3 x3_3 x12_1) x22_3).f1)]] (by rfl) rfl rfl (by (try simp only [List.map_toArray, List.map_cons, List.map_nil]); first | done | rfl | (simp only [List.length_drop, List.length_take]; rfl)) ?_
                                          with_reducible refine (chart_leg_and.calls ((rd_T50 (rd_L3 x3_3 x17_2) x12_1).f0) ((rd_T50 (rd_L3 x3_3 x17_2) x12_1).f1) ((rd_T50 (rd_L3 x3_3 x12_1) x22_3).f0) ((rd_T50 (rd_L3 x3_3 x12_1) x22_3).f1) t136 t137 _ A15.out).mono ?_
                                          rintro e w22 ⟨rfl, hb⟩
                                          have HS0_ := (hb.cell (World.block_lt_of_cell? _ _ (hHeld.1))).trans (hHeld.1)
                                          have HS1_ := (hb.cell (World.block_lt_of_cell? _ _ (hHeld.2.1))).trans (hHeld.2.1)
                                          have HS2_ := (hb.cell (World.block_lt_of_cell? _ _ (hHeld.2.2.1))).trans (hHeld.2.2.1)
                                          have HS3_ := (hb.cell (World.block_lt_of_cell? _ _ (hHeld.2.2.2.1))).trans (hHeld.2.2.2.1)
                                          have HS4_ := (hb.cell (World.block_lt_of_cell? _ _ (hHeld.2.2.2.2.1))).trans (hHeld.2.2.2.2.1)
                                          have HS5_ := (hb.cell (World.block_lt_of_cell? _ _ (hHeld.2.2.2.2.2))).trans (hHeld.2.2.2.2.2)
                                          refine ⟨_, rfl, ?_⟩
                                          have n0_ := Aside0.mk (Kd.S_below (by (with_reducible repeat (first | apply Kd.S_alloc | apply Kd.S_drewN | apply Kd.S_drew)); exact HO_3.out) hb)
                                          have n1_ := Aside0.mk (Kd.R_below (by (with_reducible repeat (first | apply Kd.R_alloc | apply Kd.R_drewN | apply Kd.R_drew)); exact HL132_0.out) hb)
                                          have n2_ := Aside0.mk (Kd.R_below (by (with_reducible repeat (first | apply Kd.R_alloc | apply Kd.R_drewN | apply Kd.R_drew)); exact HL134_0.out) hb)
                                          have n3_ := Aside0.mk (Kd.C_below (by repeat (first | (with_reducible exact HR132_0.out) | (with_reducible refine Kd.C_alloc ?_ _) | (with_reducible refine Kd.C_drewN ?_ _) | (with_reducible refine Kd.C_drew ?_) | exact HR132_0.out)) hb)
                                          have n4_ := Aside0.mk (pw_cell_below hb HX132_0.out)
                                          have n5_ := Aside0.mk (Kd.C_below (by repeat (first | (with_reducible exact HR134_0.out) | (with_reducible refine Kd.C_alloc ?_ _) | (with_reducible refine Kd.C_drewN ?_ _) | (with_reducible refine Kd.C_drew ?_) | exact HR134_0.out)) hb)
                                          have n6_ := Aside0.mk (pw_cell_below hb HX134_0.out)
                                          have n7_ := Aside0.mk (blk_below (g := gb138) (o := .cells #[.int .i64 0, .int .i64 0] 50 (0, 0)) (by (with_reducible repeat (first | refine blk_drewN ?_ _ | refine blk_drew ?_ | refine blk_alloc ?_ _)); exact BK138.out) hb)
                                          have n8_ := Aside0.mk (below_step (by repeat (first | (with_reducible first | exact HB.out | apply below_alloc | apply pw_below_drewN | apply below_drew1 | refine below_set ?_ GE138.out) | exact HB.out)) hb)
                                          clear HO_3
                                          clear HL132_0
                                          clear HL134_0
                                          clear HR132_0
                                          clear HX132_0
                                          clear HR134_0
                                          clear HX134_0
                                          clear BK138
                                          clear HB
                                          have HO_3 := n0_
                                          have HL132_0 := n1_
                                          have HL134_0 := n2_
                                          have HR132_0 := n3_
                                          have HX132_0 := n4_
                                          have HR134_0 := n5_
                                          have HX134_0 := n6_
                                          have BK138 := n7_
                                          have HB := n8_
                                          clear n0_ n1_ n2_ n3_ n4_ n5_ n6_ n7_ n8_
                                          (try clear hb)
                                          (try clear hb2)
                                          (try clear hk)
                                          (try clear hi)
                                          refine hK.out _ _ ⟨HS0_, HS1_, HS2_, HS3_, HS4_, HS5_⟩ (fun hHeld => ?_)
                                          clear hK K
                                          refine norm_ (a' := ?_) ?_ ?_
                                          rotate_left
                                          · show Act.put _ (some 39) _ = _
                                            simp only [Act.put, List.setIfInBounds_toArray, List.set_cons_zero, List.set_cons_succ, i64_w, i32_w]
                                            rfl
                                          exact norm_ (by simp only [putAll, Act.put, List.setIfInBounds_toArray, List.set_cons_zero, List.set_cons_succ]) (hCont (gb138) _ ⟨hHeld, (by (with_reducible repeat (first | apply Kd.R_alloc | apply Kd.R_drewN | apply Kd.R_drew)); exact Kd.R_mono HL132_0.out (fun _ hk => ⟨hk.1.2, hk.2⟩)), (by (with_reducible repeat (first | apply Kd.R_alloc | apply Kd.R_drewN | apply Kd.R_drew)); exact Kd.R_mono HL134_0.out (fun _ hk => ⟨hk.1.2, hk.2⟩)), (by (with_reducible repeat (first | apply Kd.S_alloc | apply Kd.S_drewN | apply Kd.S_drew)); exact Kd.S_mono HO_3.out (fun _ hk => hk.2)), HX132_0.out, HX134_0.out, (by (with_reducible repeat (first | refine blk_drewN ?_ _ | refine blk_drew ?_ | refine blk_alloc ?_ _)); exact BK138.out), GW138.out, GE138.out, (by repeat (first | (with_reducible first | exact HB.out | apply below_alloc | apply pw_below_drewN | apply below_drew1 | refine below_set ?_ GE138.out) | exact HB.out))⟩)
                                      rintro gb138 w23 ⟨hS_, h0_, h1_, h2_, h3_, h4_, h5_, h6_, h7_, h8_⟩
                                      have n0_ : Aside0 (Kd.R k50 50 w23 w.heap.size (fun k_ => some k_ ≠ (.slice (some ad132) x3_3.length co4 : Value).ownBlock ∧ k_ ≠ gb138) (.slice (some ad133) (rd_L3 x3_3 x17_2).length c132_0) (rd_L3 x3_3 x17_2)) := ⟨h0_⟩
                                      have n1_ : Aside0 (Kd.R k50 50 w23 w.heap.size (fun k_ => some k_ ≠ (.slice (some ad132) x3_3.length co4 : Value).ownBlock ∧ k_ ≠ gb138) (.slice (some ad135) (rd_L3 x3_3 x12_1).length c134_0) (rd_L3 x3_3 x12_1)) := ⟨h1_⟩
                                      have n2_ : Aside0 (Kd.S (Kd.slice 50 k50) 48 w23 w.heap.size (fun k_ => k_ ≠ gb138) (.slice (some ad132) x3_3.length co4) x3_3) := ⟨h2_⟩
                                      have n3_ : Aside0 (w23.cell? (ad132.add (x17_2).toNat) = some (.slice (some ad133) (rd_L3 x3_3 x17_2).length c132_0)) := ⟨h3_⟩
                                      have n4_ : Aside0 (w23.cell? (ad132.add (x12_1).toNat) = some (.slice (some ad135) (rd_L3 x3_3 x12_1).length c134_0)) := ⟨h4_⟩
                                      have n5_ : Aside0 (w23.heap[gb138]? = some (.cells #[.int .i64 0, .int .i64 0] 50 (0, 0))) := ⟨h5_⟩
                                      have n6_ : Aside0 (w.heap.size ≤ gb138) := ⟨h6_⟩
                                      have n7_ : Aside0 (w.heap.size ≤ gb138) := ⟨h7_⟩
                                      have n8_ : Aside0 (Below w.heap.size w w23) := ⟨h8_⟩
                                      clear HO_3
                                      clear HB
                                      clear h0_ h1_ h2_ h3_ h4_ h5_ h6_ h7_ h8_
                                      have HL132_0 := n0_
                                      have HL134_0 := n1_
                                      have HO_3 := n2_
                                      have HX132_0 := n3_
                                      have HX134_0 := n4_
                                      have BK138 := n5_
                                      have GW138 := n6_
                                      have GE138 := n7_
                                      have HB := n8_
                                      clear n0_ n1_ n2_ n3_ n4_ n5_ n6_ n7_ n8_
                                      have hHeld : w23.cell? (ad132.add (x17_2).toNat) = some (.slice (some ad133) (rd_L3 x3_3 x17_2).length c132_0) ∧ w23.cell? (ad133.add ((x12_1).toNat * 2)) = some (.int .i64 ((rd_T50 (rd_L3 x3_3 x17_2) x12_1).f0)) ∧ w23.cell? ⟨(ad133.add ((x12_1).toNat * 2)).block, (ad133.add ((x12_1).toNat * 2)).off + 1, none⟩ = some (.int .i64 ((rd_T50 (rd_L3 x3_3 x17_2) x12_1).f1)) ∧ w23.cell? (ad132.add (x12_1).toNat) = some (.slice (some ad135) (rd_L3 x3_3 x12_1).length c134_0) ∧ w23.cell? (ad135.add ((x22_3).toNat * 2)) = some (.int .i64 ((rd_T50 (rd_L3 x3_3 x12_1) x22_3).f0)) ∧ w23.cell? ⟨(ad135.add ((x22_3).toNat * 2)).block, (ad135.add ((x22_3).toNat * 2)).off + 1, none⟩ = some (.int .i64 ((rd_T50 (rd_L3 x3_3 x12_1) x22_3).f1)) := hS_
                                      refine norm_ (a' := ?_) ?_ ?_
                                      rotate_left
                                      · simp only [putAll, Act.put, List.setIfInBounds_toArray, List.set_cons_zero, List.set_cons_succ]
                                        rfl
                                      refine one_ (i := 16) (N := none) #[true, true, true, true, true, true, true, true, true, true, true, true, true, true, true, true, true] rfl rfl (one_of HT_.out (by kernel_rfl)) (by decide) (fun K hK => ?_)
                                      have hs24 : w23.cell? ⟨gb138, 0, none⟩ = some (.int .i64 0) := (blk_cell BK138.out 0).trans rfl
                                      have hfs24 := blk_frozen BK138.out 0
                                      have hs25 : w23.cell? ⟨gb138, 1, none⟩ = some (.int .i64 0) := (blk_cell BK138.out 1).trans rfl
                                      have hfs25 := blk_frozen BK138.out 1
                                      refine skip_ (w1 := ?_) (by rfl) rfl ?_ ?_
                                      rotate_left
                                      · go_simp
                                        rfl
                                      refine hK.out _ _ ⟨((cell_far (p := ⟨gb138, _, none⟩) (by first | exact Kd.own_blk (Kd.S_away HO_3.out (fun _ hk => hk)) | (rw [add_block]; exact Kd.own_blk (Kd.S_away HO_3.out (fun _ hk => hk))) | (show (Addr.add _ _).block ≠ _; rw [add_block]; exact Kd.own_blk (Kd.S_away HO_3.out (fun _ hk => hk))) | (dsimp only; exact Kd.own_blk (Kd.S_away HO_3.out (fun _ hk => hk)))) _).trans (((cell_far (p := ⟨gb138, _, none⟩) (by first | exact Kd.own_blk (Kd.S_away HO_3.out (fun _ hk => hk)) | (rw [add_block]; exact Kd.own_blk (Kd.S_away HO_3.out (fun _ hk => hk))) | (show (Addr.add _ _).block ≠ _; rw [add_block]; exact Kd.own_blk (Kd.S_away HO_3.out (fun _ hk => hk))) | (dsimp only; exact Kd.own_blk (Kd.S_away HO_3.out (fun _ hk => hk)))) _).trans (hHeld.1)))), ((cell_far (p := ⟨gb138, _, none⟩) (by first | exact Kd.own_blk (Kd.R_away HL132_0.out (fun _ hk => hk.2)) | (rw [add_block]; exact Kd.own_blk (Kd.R_away HL132_0.out (fun _ hk => hk.2))) | (show (Addr.add _ _).block ≠ _; rw [add_block]; exact Kd.own_blk (Kd.R_away HL132_0.out (fun _ hk => hk.2))) | (dsimp only; exact Kd.own_blk (Kd.R_away HL132_0.out (fun _ hk => hk.2)))) _).trans (((cell_far (p := ⟨gb138, _, none⟩) (by first | exact Kd.own_blk (Kd.R_away HL132_0.out (fun _ hk => hk.2)) | (rw [add_block]; exact Kd.own_blk (Kd.R_away HL132_0.out (fun _ hk => hk.2))) | (show (Addr.add _ _).block ≠ _; rw [add_block]; exact Kd.own_blk (Kd.R_away HL132_0.out (fun _ hk => hk.2))) | (dsimp only; exact Kd.own_blk (Kd.R_away HL132_0.out (fun _ hk => hk.2)))) _).trans (hHeld.2.1)))), ((cell_far (p := ⟨gb138, _, none⟩) (by first | exact Kd.own_blk (Kd.R_away HL132_0.out (fun _ hk => hk.2)) | (rw [add_block]; exact Kd.own_blk (Kd.R_away HL132_0.out (fun _ hk => hk.2))) | (show (Addr.add _ _).block ≠ _; rw [add_block]; exact Kd.own_blk (Kd.R_away HL132_0.out (fun _ hk => hk.2))) | (dsimp only; exact Kd.own_blk (Kd.R_away HL132_0.out (fun _ hk => hk.2)))) _).trans (((cell_far (p := ⟨gb138, _, none⟩) (by first | exact Kd.own_blk (Kd.R_away HL132_0.out (fun _ hk => hk.2)) | (rw [add_block]; exact Kd.own_blk (Kd.R_away HL132_0.out (fun _ hk => hk.2))) | (show (Addr.add _ _).block ≠ _; rw [add_block]; exact Kd.own_blk (Kd.R_away HL132_0.out (fun _ hk => hk.2))) | (dsimp only; exact Kd.own_blk (Kd.R_away HL132_0.out (fun _ hk => hk.2)))) _).trans (hHeld.2.2.1)))), ((cell_far (p := ⟨gb138, _, none⟩) (by first | exact Kd.own_blk (Kd.S_away HO_3.out (fun _ hk => hk)) | (rw [add_block]; exact Kd.own_blk (Kd.S_away HO_3.out (fun _ hk => hk))) | (show (Addr.add _ _).block ≠ _; rw [add_block]; exact Kd.own_blk (Kd.S_away HO_3.out (fun _ hk => hk))) | (dsimp only; exact Kd.own_blk (Kd.S_away HO_3.out (fun _ hk => hk)))) _).trans (((cell_far (p := ⟨gb138, _, none⟩) (by first | exact Kd.own_blk (Kd.S_away HO_3.out (fun _ hk => hk)) | (rw [add_block]; exact Kd.own_blk (Kd.S_away HO_3.out (fun _ hk => hk))) | (show (Addr.add _ _).block ≠ _; rw [add_block]; exact Kd.own_blk (Kd.S_away HO_3.out (fun _ hk => hk))) | (dsimp only; exact Kd.own_blk (Kd.S_away HO_3.out (fun _ hk => hk)))) _).trans (hHeld.2.2.2.1)))), ((cell_far (p := ⟨gb138, _, none⟩) (by first | exact Kd.own_blk (Kd.R_away HL134_0.out (fun _ hk => hk.2)) | (rw [add_block]; exact Kd.own_blk (Kd.R_away HL134_0.out (fun _ hk => hk.2))) | (show (Addr.add _ _).block ≠ _; rw [add_block]; exact Kd.own_blk (Kd.R_away HL134_0.out (fun _ hk => hk.2))) | (dsimp only; exact Kd.own_blk (Kd.R_away HL134_0.out (fun _ hk => hk.2)))) _).trans (((cell_far (p := ⟨gb138, _, none⟩) (by first | exact Kd.own_blk (Kd.R_away HL134_0.out (fun _ hk => hk.2)) | (rw [add_block]; exact Kd.own_blk (Kd.R_away HL134_0.out (fun _ hk => hk.2))) | (show (Addr.add _ _).block ≠ _; rw [add_block]; exact Kd.own_blk (Kd.R_away HL134_0.out (fun _ hk => hk.2))) | (dsimp only; exact Kd.own_blk (Kd.R_away HL134_0.out (fun _ hk => hk.2)))) _).trans (hHeld.2.2.2.2.1)))), ((cell_far (p := ⟨gb138, _, none⟩) (by first | exact Kd.own_blk (Kd.R_away HL134_0.out (fun _ hk => hk.2)) | (rw [add_block]; exact Kd.own_blk (Kd.R_away HL134_0.out (fun _ hk => hk.2))) | (show (Addr.add _ _).block ≠ _; rw [add_block]; exact Kd.own_blk (Kd.R_away HL134_0.out (fun _ hk => hk.2))) | (dsimp only; exact Kd.own_blk (Kd.R_away HL134_0.out (fun _ hk => hk.2)))) _).trans (((cell_far (p := ⟨gb138, _, none⟩) (by first | exact Kd.own_blk (Kd.R_away HL134_0.out (fun _ hk => hk.2)) | (rw [add_block]; exact Kd.own_blk (Kd.R_away HL134_0.out (fun _ hk => hk.2))) | (show (Addr.add _ _).block ≠ _; rw [add_block]; exact Kd.own_blk (Kd.R_away HL134_0.out (fun _ hk => hk.2))) | (dsimp only; exact Kd.own_blk (Kd.R_away HL134_0.out (fun _ hk => hk.2)))) _).trans (hHeld.2.2.2.2.2))))⟩ (fun hHeld => ?_)
                                      clear hK K
                                      refine done_ (done_of HT_.out (by kernel_rfl)) ?_
                                      try go_wp2
                                      have n0_ : Aside0 (Kd.S (Kd.slice 50 k50) 48 ((w23.setCell ⟨gb138, 0, none⟩ (.int .i64 t136)).setCell ⟨gb138, 1, none⟩ (.int .i64 t137)) w.heap.size (fun k_ => k_ ≠ gb138) (.slice (some ad132) x3_3.length co4) x3_3) := ⟨by (with_reducible repeat (first | apply Kd.S_alloc | apply Kd.S_drewN | apply Kd.S_drew)); exact Kd.S_mono (Kd.S_far (p := ⟨gb138, 1, none⟩) (Kd.S_far (p := ⟨gb138, 0, none⟩) (Kd.S_mono HO_3.out (fun k_ hk => (⟨hk, hk⟩ : _ ∧ k_ ≠ gb138))) (fun _ hk => hk.2) (.int .i64 t136)) (fun _ hk => hk.2) (.int .i64 t137)) (fun _ hk => hk.1)⟩
                                      have n1_ : Aside0 (Kd.R k50 50 ((w23.setCell ⟨gb138, 0, none⟩ (.int .i64 t136)).setCell ⟨gb138, 1, none⟩ (.int .i64 t137)) w.heap.size (fun k_ => some k_ ≠ (.slice (some ad132) x3_3.length co4 : Value).ownBlock ∧ k_ ≠ gb138) (.slice (some ad133) (rd_L3 x3_3 x17_2).length c132_0) (rd_L3 x3_3 x17_2)) := ⟨by (with_reducible repeat (first | apply Kd.R_alloc | apply Kd.R_drewN | apply Kd.R_drew)); exact Kd.R_mono (Kd.R_far (p := ⟨gb138, 1, none⟩) (Kd.R_far (p := ⟨gb138, 0, none⟩) (Kd.R_mono HL132_0.out (fun k_ hk => (⟨hk, hk.2⟩ : _ ∧ k_ ≠ gb138))) (fun _ hk => hk.2) (.int .i64 t136)) (fun _ hk => hk.2) (.int .i64 t137)) (fun _ hk => ⟨hk.1.1, hk.1.2⟩)⟩
                                      have n2_ : Aside0 (Kd.R k50 50 ((w23.setCell ⟨gb138, 0, none⟩ (.int .i64 t136)).setCell ⟨gb138, 1, none⟩ (.int .i64 t137)) w.heap.size (fun k_ => some k_ ≠ (.slice (some ad132) x3_3.length co4 : Value).ownBlock ∧ k_ ≠ gb138) (.slice (some ad135) (rd_L3 x3_3 x12_1).length c134_0) (rd_L3 x3_3 x12_1)) := ⟨by (with_reducible repeat (first | apply Kd.R_alloc | apply Kd.R_drewN | apply Kd.R_drew)); exact Kd.R_mono (Kd.R_far (p := ⟨gb138, 1, none⟩) (Kd.R_far (p := ⟨gb138, 0, none⟩) (Kd.R_mono HL134_0.out (fun k_ hk => (⟨hk, hk.2⟩ : _ ∧ k_ ≠ gb138))) (fun _ hk => hk.2) (.int .i64 t136)) (fun _ hk => hk.2) (.int .i64 t137)) (fun _ hk => ⟨hk.1.1, hk.1.2⟩)⟩
                                      have n3_ : Aside0 (((w23.setCell ⟨gb138, 0, none⟩ (.int .i64 t136)).setCell ⟨gb138, 1, none⟩ (.int .i64 t137)).heap[gb138]? = some (.cells #[.int .i64 t136, .int .i64 t137] 50 (0, 0))) := ⟨by (with_reducible repeat (first | refine blk_drewN ?_ _ | refine blk_drew ?_ | refine blk_alloc ?_ _)); refine blk_put (cs := #[.int .i64 t136, .int .i64 0]) ?_ 1 _ rfl; (with_reducible repeat (first | refine blk_drewN ?_ _ | refine blk_drew ?_ | refine blk_alloc ?_ _)); refine blk_put (cs := #[.int .i64 0, .int .i64 0]) ?_ 0 _ rfl; (with_reducible repeat (first | refine blk_drewN ?_ _ | refine blk_drew ?_ | refine blk_alloc ?_ _)); exact BK138.out⟩
                                      have n4_ : Aside0 (Below w.heap.size w ((w23.setCell ⟨gb138, 0, none⟩ (.int .i64 t136)).setCell ⟨gb138, 1, none⟩ (.int .i64 t137))) := ⟨by repeat (first | (with_reducible first | exact HB.out | apply below_alloc | apply pw_below_drewN | apply below_drew1 | refine below_set ?_ GE138.out) | exact HB.out)⟩
                                      (try clear HO_3)
                                      (try clear HL132_0)
                                      (try clear HL134_0)
                                      (try clear BK138)
                                      (try clear HB)
                                      generalize ((w23.setCell ⟨gb138, 0, none⟩ (.int .i64 t136)).setCell ⟨gb138, 1, none⟩ (.int .i64 t137)) = w26 at n0_ n1_ n2_ n3_ n4_ ⊢
                                      have HO_3 := n0_
                                      have HL132_0 := n1_
                                      have HL134_0 := n2_
                                      have BK138 := n3_
                                      have HB := n4_
                                      clear n0_ n1_ n2_ n3_ n4_
                                      have n0_ := Aside0.mk (Kd.S_drew HO_3.out)
                                      have n1_ := Aside0.mk (Kd.R_drew HL132_0.out)
                                      have n2_ := Aside0.mk (Kd.R_drew HL134_0.out)
                                      have n3_ := Aside0.mk (blk_drew BK138.out)
                                      have n4_ := Aside0.mk (below_drew1 HB.out)
                                      clear HO_3
                                      clear HL132_0
                                      clear HL134_0
                                      clear BK138
                                      clear HB
                                      have HO_3 := n0_
                                      have HL132_0 := n1_
                                      have HL134_0 := n2_
                                      have BK138 := n3_
                                      have HB := n4_
                                      clear n0_ n1_ n2_ n3_ n4_
                                      have p139 : 0 ≤ (x17_2 : Int) := of_decide_eq_true (by first | (with_reducible assumption) | assumption)
                                      have q139 : x17_2 < (x3_3.length : Int) := of_decide_eq_true (by first | (with_reducible assumption) | assumption)
                                      obtain ⟨ad139, A139_0, c139_0, e139, hx139_0, hl139_0, hi139_0⟩ := at_L3 (Kd.S_reads' HO_3.out).2.2 x17_2 p139 q139
                                      obtain rfl : ad132 = ad139 := (by injection e139)
                                      obtain ⟨ce139, hce139, hMe139, hcc139⟩ := Kd.S_get HO_3.out [] x17_2 p139 (by first | exact q139 | exact of_decide_eq_true (by first | (with_reducible assumption) | assumption) | (have e_ := (Kd.S_reads' HO_3.out).1; omega))
                                      obtain ⟨ve139_0, rfl, ge139_0⟩ := hMe139
                                      have hv139_0 := hcc139 0 _ rfl
                                      rw [Nat.add_zero, show ((Kd.slice 50 k50)).sz = 1 from rfl, Nat.mul_one] at hv139_0
                                      replace hv139_0 := Option.some.inj (hv139_0.symm.trans hx139_0)
                                      rw [hv139_0] at ge139_0
                                      have HL139_0 := Aside0.mk (show Kd.R k50 50 _ _ _ _ (rd_L3 x3_3 x17_2) from ge139_0)
                                      clear hv139_0 ge139_0
                                      have HX139_0 := Aside0.mk hx139_0
                                      clear hcc139 hce139
                                      have HR139_0 := Aside0.mk hi139_0
                                      have HC139_0 := Aside0.mk hl139_0
                                      clear hi139_0 hl139_0
                                      replace p139 := eq_true p139
                                      replace q139 := eq_true q139
                                      have p140 : 0 ≤ (x22_3 : Int) := of_decide_eq_true (by first | (with_reducible assumption) | assumption)
                                      have q140 : x22_3 < ((rd_L3 x3_3 x17_2).length : Int) := of_decide_eq_true (by first | (with_reducible assumption) | assumption)
                                      obtain ⟨ad140, e140, hx140_0, hx140_1⟩ := at_T50 (by repeat (first | (with_reducible exact HR139_0.out) | (with_reducible refine Kd.C_alloc ?_ _) | (with_reducible refine Kd.C_drewN ?_ _) | (with_reducible refine Kd.C_drew ?_) | exact HR139_0.out)) x22_3 p140 q140
                                      cases e140
                                      replace p140 := eq_true p140
                                      replace q140 := eq_true q140
                                      refine start_ (n := 9) (S := fun w' => w'.cell? ⟨gb138, 0, none⟩ = some (.int .i64 t136) ∧ w'.cell? ⟨gb138, 1, none⟩ = some (.int .i64 t137) ∧ w'.cell? (ad132.add (x17_2).toNat) = some (.slice (some ad140) (rd_L3 x3_3 x17_2).length c139_0) ∧ w'.cell? (ad140.add ((x22_3).toNat * 2)) = some (.int .i64 ((rd_T50 (rd_L3 x3_3 x17_2) x22_3).f0)) ∧ w'.cell? ⟨(ad140.add ((x22_3).toNat * 2)).block, (ad140.add ((x22_3).toNat * 2)).off + 1, none⟩ = some (.int .i64 ((rd_T50 (rd_L3 x3_3 x17_2) x22_3).f1))) (ds := []) #[false, false, false, false, false, false, false, false, false] (by kernel_rfl) rfl rfl ⟨(blk_cell BK138.out 0).trans rfl, (blk_cell BK138.out 1).trans rfl, hx139_0, hx140_0, hx140_1⟩ (fun hHeld => ?_); refine with_tabW chart_closed.tab12 chart_closed.bits12 (fun HT_ HW_ => ?_)
                                      generalize w26.drew = w27 at HO_3 HL132_0 HL134_0 BK138 HB HL139_0 HR139_0 HX139_0 hx139_0 hx140_0 hx140_1 hHeld ⊢
                                      refine pure_ (i := 1) (N := some 41) (v := ?_) (a' := ?_) #[false, true, false, false, false, false, false, false, false] rfl rfl (any_of HT_.out (by kernel_rfl)) (fun _ _ _ h => h) (Or.inl ⟨by rfl, ?_⟩) ?_ ?_
                                      rotate_left
                                      · intro w'
                                        go_simp
                                        with_reducible rfl
                                      rotate_left
                                      · simp only [Act.put, List.setIfInBounds_toArray, List.set_cons_zero, List.set_cons_succ, i64_w, i32_w]
                                        rfl
                                      refine pure_ (i := 2) (N := some 42) (v := ?_) (a' := ?_) #[false, true, true, false, false, false, false, false, false] rfl rfl (any_of HT_.out (by kernel_rfl)) (fun _ _ _ h => h) (Or.inl ⟨by rfl, ?_⟩) ?_ ?_
                                      rotate_left
                                      · intro w'
                                        go_simp
                                        with_reducible rfl
                                      rotate_left
                                      · simp only [Act.put, List.setIfInBounds_toArray, List.set_cons_zero, List.set_cons_succ, i64_w, i32_w]
                                        rfl
                                      refine pure_ (i := 3) (N := some 43) (v := ?_) (a' := ?_) #[false, true, true, true, false, false, false, false, false] rfl rfl (any_of HT_.out (by kernel_rfl)) (fun _ _ _ h => h) (Or.inl ⟨by rfl, ?_⟩) ?_ ?_
                                      rotate_left
                                      · intro w'
                                        go_simp
                                        with_reducible rfl
                                      rotate_left
                                      · simp only [Act.put, List.setIfInBounds_toArray, List.set_cons_zero, List.set_cons_succ, i64_w, i32_w]
                                        rfl
                                      refine pure_ (i := 5) (N := some 45) (v := ?_) (a' := ?_) #[false, true, true, true, false, true, false, false, false] rfl rfl (any_of HT_.out (by kernel_rfl)) (fun _ _ _ h => h) (Or.inl ⟨by rfl, ?_⟩) ?_ ?_
                                      rotate_left
                                      · intro w'
                                        go_simp
                                        with_reducible rfl
                                      rotate_left
                                      · simp only [Act.put, List.setIfInBounds_toArray, List.set_cons_zero, List.set_cons_succ, i64_w, i32_w]
                                        rfl
                                      refine take_ (i := 0) (N := some 40) (v := ?_) (a' := ?_) #[true, true, true, true, false, true, false, false, false] rfl rfl (take_ofW HT_.out HW_.out (by kernel_rfl)) (fun _ _ _ h => h) (Or.inl ⟨by rfl, ?_⟩) hHeld ?_ ?_
                                      rotate_left
                                      · rintro w' ⟨s0, s1, s2, s3, s4⟩
                                        go_simp
                                        with_reducible rfl
                                      rotate_left
                                      · simp only [Act.put, List.setIfInBounds_toArray, List.set_cons_zero, List.set_cons_succ, i64_w, i32_w]
                                        rfl
                                      refine take_ (i := 4) (N := some 44) (v := ?_) (a' := ?_) #[true, true, true, true, true, true, false, false, false] rfl rfl (take_ofW HT_.out HW_.out (by kernel_rfl)) (fun _ _ _ h => h) (Or.inl ⟨by rfl, ?_⟩) hHeld ?_ ?_
                                      rotate_left
                                      · rintro w' ⟨s0, s1, s2, s3, s4⟩
                                        go_simp
                                        with_reducible rfl
                                      rotate_left
                                      · simp only [Act.put, List.setIfInBounds_toArray, List.set_cons_zero, List.set_cons_succ, i64_w, i32_w]
                                        rfl
                                      refine pure_ (i := 6) (N := some 46) (v := ?_) (a' := ?_) #[true, true, true, true, true, true, true, false, false] rfl rfl (any_of HT_.out (by kernel_rfl)) (fun _ _ _ h => h) (Or.inl ⟨by rfl, ?_⟩) ?_ ?_
                                      rotate_left
                                      · intro w'
                                        go_simp
                                        with_reducible rfl
                                      rotate_left
                                      · simp only [Act.put, List.setIfInBounds_toArray, List.set_cons_zero, List.set_cons_succ, i64_w, i32_w]
                                        rfl
                                      refine take_ (i := 7) (N := some 47) (v := ?_) (a' := ?_) #[true, true, true, true, true, true, true, true, false] rfl rfl (take_ofW HT_.out HW_.out (by kernel_rfl)) (fun _ _ _ h => h) (Or.inl ⟨by rfl, ?_⟩) hHeld ?_ ?_
                                      rotate_left
                                      · rintro w' ⟨s0, s1, s2, s3, s4⟩
                                        go_simp
                                        with_reducible rfl
                                      rotate_left
                                      · simp only [Act.put, List.setIfInBounds_toArray, List.set_cons_zero, List.set_cons_succ, i64_w, i32_w]
                                        rfl
                                      refine one_ (i := 8) (N := some 48) #[true, true, true, true, true, true, true, true, true] rfl rfl (one_of HT_.out (by kernel_rfl)) (by decide) (fun K hK => ?_)
                                      refine goes_ Try.func32 (by kernel_rfl) rfl #[.agg #[.int .i64 t136, .int .i64 t137], .agg #[.int .i64 ((rd_T50 (rd_L3 x3_3 x17_2) x22_3).f0), .int .i64 ((rd_T50 (rd_L3 x3_3 x17_2) x22_3).f1)]] (by rfl) rfl rfl (by (try simp only [List.map_toArray, List.map_cons, List.map_nil]); first | done | rfl | (simp only [List.length_drop, List.length_take]; rfl)) ?_
                                      with_reducible refine (chart_leg_before.calls t136 t137 ((rd_T50 (rd_L3 x3_3 x17_2) x22_3).f0) ((rd_T50 (rd_L3 x3_3 x17_2) x22_3).f1) true _ A17.out).mono ?_
                                      rintro e w28 ⟨rfl, hb⟩
                                      have HS2_ := (hb.cell (World.block_lt_of_cell? _ _ (hHeld.2.2.1))).trans (hHeld.2.2.1)
                                      have HS3_ := (hb.cell (World.block_lt_of_cell? _ _ (hHeld.2.2.2.1))).trans (hHeld.2.2.2.1)
                                      have HS4_ := (hb.cell (World.block_lt_of_cell? _ _ (hHeld.2.2.2.2))).trans (hHeld.2.2.2.2)
                                      refine ⟨_, rfl, ?_⟩
                                      have n0_ := Aside0.mk (Kd.S_below (by (with_reducible repeat (first | apply Kd.S_alloc | apply Kd.S_drewN | apply Kd.S_drew)); exact HO_3.out) hb)
                                      have n1_ := Aside0.mk (Kd.R_below (by (with_reducible repeat (first | apply Kd.R_alloc | apply Kd.R_drewN | apply Kd.R_drew)); exact HL132_0.out) hb)
                                      have n2_ := Aside0.mk (Kd.R_below (by (with_reducible repeat (first | apply Kd.R_alloc | apply Kd.R_drewN | apply Kd.R_drew)); exact HL134_0.out) hb)
                                      have n3_ := Aside0.mk (Kd.R_below (by (with_reducible repeat (first | apply Kd.R_alloc | apply Kd.R_drewN | apply Kd.R_drew)); exact HL139_0.out) hb)
                                      have n4_ := Aside0.mk (blk_below (g := gb138) (o := .cells #[.int .i64 t136, .int .i64 t137] 50 (0, 0)) (by (with_reducible repeat (first | refine blk_drewN ?_ _ | refine blk_drew ?_ | refine blk_alloc ?_ _)); exact BK138.out) hb)
                                      have n5_ := Aside0.mk (Kd.C_below (by repeat (first | (with_reducible exact HR139_0.out) | (with_reducible refine Kd.C_alloc ?_ _) | (with_reducible refine Kd.C_drewN ?_ _) | (with_reducible refine Kd.C_drew ?_) | exact HR139_0.out)) hb)
                                      have n6_ := Aside0.mk (pw_cell_below hb HX139_0.out)
                                      have n7_ := Aside0.mk (below_step (by repeat (first | (with_reducible first | exact HB.out | apply below_alloc | apply pw_below_drewN | apply below_drew1 | refine below_set ?_ GE138.out) | exact HB.out)) hb)
                                      clear HO_3
                                      clear HL132_0
                                      clear HL134_0
                                      clear HL139_0
                                      clear BK138
                                      clear HR139_0
                                      clear HX139_0
                                      clear HB
                                      have HO_3 := n0_
                                      have HL132_0 := n1_
                                      have HL134_0 := n2_
                                      have HL139_0 := n3_
                                      have BK138 := n4_
                                      have HR139_0 := n5_
                                      have HX139_0 := n6_
                                      have HB := n7_
                                      clear n0_ n1_ n2_ n3_ n4_ n5_ n6_ n7_
                                      (try clear hb)
                                      (try clear hb2)
                                      (try clear hk)
                                      (try clear hi)
                                      refine hK.out _ _ ⟨(blk_cell BK138.out 0).trans rfl, (blk_cell BK138.out 1).trans rfl, HS2_, HS3_, HS4_⟩ (fun hHeld => ?_)
                                      clear hK K
                                      refine norm_ (a' := ?_) ?_ ?_
                                      rotate_left
                                      · show Act.put _ (some 48) _ = _
                                        simp only [Act.put, List.setIfInBounds_toArray, List.set_cons_zero, List.set_cons_succ, i64_w, i32_w]
                                        rfl
                                      refine done_ (done_of HT_.out (by kernel_rfl)) ?_
                                      try go_wp2
                                      have n0_ := Aside0.mk (Kd.S_drew HO_3.out)
                                      have n1_ := Aside0.mk (Kd.R_drew HL132_0.out)
                                      have n2_ := Aside0.mk (Kd.R_drew HL134_0.out)
                                      have n3_ := Aside0.mk (Kd.R_drew HL139_0.out)
                                      have n4_ := Aside0.mk (blk_drew BK138.out)
                                      have n5_ := Aside0.mk (Kd.C_drew HR139_0.out)
                                      have n6_ := Aside0.mk (below_drew1 HB.out)
                                      clear HO_3
                                      clear HL132_0
                                      clear HL134_0
                                      clear HL139_0
                                      clear BK138
                                      clear HR139_0
                                      clear HB
                                      have HO_3 := n0_
                                      have HL132_0 := n1_
                                      have HL134_0 := n2_
                                      have HL139_0 := n3_
                                      have BK138 := n4_
                                      have HR139_0 := n5_
                                      have HB := n6_
                                      clear n0_ n1_ n2_ n3_ n4_ n5_ n6_
                                      have p142 : 0 ≤ (x17_2 : Int) := of_decide_eq_true (by first | (with_reducible assumption) | assumption)
                                      have q142 : x17_2 < (x3_3.length : Int) := of_decide_eq_true (by first | (with_reducible assumption) | assumption)
                                      obtain ⟨ad142, A142_0, c142_0, e142, hx142_0, hl142_0, hi142_0⟩ := at_L3 (Kd.S_reads' HO_3.out).2.2 x17_2 p142 q142
                                      obtain rfl : ad132 = ad142 := (by injection e142)
                                      obtain ⟨ce142, hce142, hMe142, hcc142⟩ := Kd.S_get HO_3.out [] x17_2 p142 (by first | exact q142 | exact of_decide_eq_true (by first | (with_reducible assumption) | assumption) | (have e_ := (Kd.S_reads' HO_3.out).1; omega))
                                      obtain ⟨ve142_0, rfl, ge142_0⟩ := hMe142
                                      have hv142_0 := hcc142 0 _ rfl
                                      rw [Nat.add_zero, show ((Kd.slice 50 k50)).sz = 1 from rfl, Nat.mul_one] at hv142_0
                                      replace hv142_0 := Option.some.inj (hv142_0.symm.trans hx142_0)
                                      rw [hv142_0] at ge142_0
                                      have HL142_0 := Aside0.mk (show Kd.R k50 50 _ _ _ _ (rd_L3 x3_3 x17_2) from ge142_0)
                                      clear hv142_0 ge142_0
                                      have HX142_0 := Aside0.mk hx142_0
                                      clear hcc142 hce142
                                      have HR142_0 := Aside0.mk hi142_0
                                      have HC142_0 := Aside0.mk hl142_0
                                      clear hi142_0 hl142_0
                                      replace p142 := eq_true p142
                                      replace q142 := eq_true q142
                                      have p19 : 0 ≤ (x22_3 : Int) := of_decide_eq_true (by first | (with_reducible assumption) | assumption)
                                      have q19 : (x22_3 : Int) < (((rd_L3 x3_3 x17_2).length : Int) : Int) := of_decide_eq_true (by first | (with_reducible assumption) | assumption)
                                      obtain ⟨go19, co19, eo19, gb19, gl19, cl19, HG19⟩ := Kd.R_form HL142_0.out (by omega)
                                      (first | cases eo19 | (injection eo19 with ea_ en_ ec_; (first | subst ea_ | (injection ea_ with ea_; subst ea_)); subst ec_; clear en_))
                                      have GB19 := Aside0.mk gb19
                                      have GG19 := Aside0.mk HG19
                                      clear gb19 gl19 HG19
                                      obtain ⟨ce19, hcl19, hM19, hcc19, hfr19⟩ := Kd.R_elem HL142_0.out z50 (x22_3 : Int) p19 q19
                                      obtain rfl := k50_openM hM19
                                      have hx19_0 : World.cell? _ ⟨go19, (x22_3 : Int).toNat * 2, none⟩ = some (.int .i64 ((rd_T50 (rd_L3 x3_3 x17_2) x22_3).f0)) := hcc19 0 _ rfl
                                      have hx19_1 : World.cell? _ ⟨go19, (x22_3 : Int).toNat * 2 + 1, none⟩ = some (.int .i64 ((rd_T50 (rd_L3 x3_3 x17_2) x22_3).f1)) := hcc19 1 _ rfl
                                      have hf19_0 : World.frozen? _ ⟨go19, (x22_3 : Int).toNat * 2, none⟩ = false := hfr19 0
                                      have hf19_1 : World.frozen? _ ⟨go19, (x22_3 : Int).toNat * 2 + 1, none⟩ = false := hfr19 1
                                      clear hcl19 hcc19 hfr19; (try clear hM19)
                                      replace p19 := eq_true p19
                                      replace q19 := eq_true q19
                                      have hq30 : (x17_2 : Int) < (x3_3.length : Int) := (by have h_ : (x17_2 : Int) < ((x3_3.length : Int) : Int) := of_decide_eq_true (by first | (with_reducible assumption) | assumption); first | exact h_ | (have e_ := (Kd.S_reads' HO_3.out).1; omega) | simpa only [List.length_set, List.length_set] using h_)
                                      obtain ⟨oki30, ce30, hcl30, hM30, hcc30, hok30, hbk30⟩ := Kd.S_borrow HO_3.out [] (x17_2 : Int) (of_decide_eq_true (by first | (with_reducible assumption) | assumption)) hq30
                                      obtain ⟨ve30_0, rfl, ge30_0⟩ := hM30
                                      have hv30 := hcc30 0 _ rfl
                                      rw [Nat.add_zero, show ((Kd.slice 50 k50)).sz = 1 from rfl, Nat.mul_one] at hv30
                                      replace hv30 := Option.some.inj (hv30.symm.trans HX142_0.out)
                                      subst hv30
                                      clear hcc30 hcl30
                                      replace ge30_0 := (show Kd.R k50 50 _ _ _ _ (rd_L3 x3_3 x17_2) from ge30_0)
                                      obtain ⟨cf30, hcl30, hN30, hcc30, hfr30⟩ := Kd.R_elem ge30_0 z50 (x22_3 : Int) (of_decide_eq_true (by first | (with_reducible assumption) | assumption)) (by have h_ : (x22_3 : Int) < (((rd_L3 x3_3 x17_2).length : Int) : Int) := of_decide_eq_true (by first | (with_reducible assumption) | assumption); first | exact h_ | (have e_ := (Kd.R_reads' HR142_0.out).1; omega) | simpa using h_)
                                      obtain rfl := k50_openM hN30
                                      have HP30 := Kd.R_seg ge30_0 (x22_3 : Int) (of_decide_eq_true (by first | (with_reducible assumption) | assumption)) (by have h_ : (x22_3 : Int) < (((rd_L3 x3_3 x17_2).length : Int) : Int) := of_decide_eq_true (by first | (with_reducible assumption) | assumption); first | exact h_ | (have e_ := (Kd.R_reads' HR142_0.out).1; omega) | simpa using h_) (seg := [.int .i64 t136, .int .i64 t137]) (j := 0) hcl30 hcc30 (show 2 ≤ 2 from by decide) (x' := (⟨t136, t137⟩ : S50)) (k50_mkM _ _ _ (⟨t136, t137⟩ : S50)) (fun _ hk => hk)
                                      clear hcl30 hcc30 hfr30 hN30
                                      rw [← Ny143.out] at HP30
                                      have HS30 := hbk30 HP30.2 (fun k_ e_ => by injection e_ with e_; subst e_; exact ge30_0.1 _ rfl) (x' := y143) (Kd.M_row HP30.1)
                                      rw [← Ny145.out] at HS30
                                      have HQ30 := Aside0.mk HS30
                                      clear HP30 HS30 hbk30 hok30
                                      refine start_ (n := 8) (S := fun w' => w'.cell? ⟨gb138, 0, none⟩ = some (.int .i64 t136) ∧ w'.cell? ⟨gb138, 1, none⟩ = some (.int .i64 t137) ∧ w'.cell? (ad132.add (x17_2).toNat) = some (.slice (some ⟨go19, 0, none⟩) (rd_L3 x3_3 x17_2).length c142_0)) (ds := [7]) #[false, false, false, false, false, false, false, false] (by kernel_rfl) rfl rfl ⟨(blk_cell BK138.out 0).trans rfl, (blk_cell BK138.out 1).trans rfl, hx142_0⟩ (fun hHeld => ?_); refine with_tabW chart_closed.tab13 chart_closed.bits13 (fun HT_ HW_ => ?_)
                                      generalize w28.drew = w29 at HO_3 HL132_0 HL134_0 HL139_0 BK138 HR139_0 HB GG19 HL142_0 HQ30 HR142_0 HX142_0 hf19_0 hf19_1 hx142_0 hx19_0 hx19_1 hHeld ⊢
                                      refine pure_ (i := 0) (N := some 49) (v := ?_) (a' := ?_) #[true, false, false, false, false, false, false, false] rfl rfl (any_of HT_.out (by kernel_rfl)) (fun _ _ _ h => h) (Or.inl ⟨by rfl, ?_⟩) ?_ ?_
                                      rotate_left
                                      · intro w'
                                        go_simp
                                        with_reducible rfl
                                      rotate_left
                                      · simp only [Act.put, List.setIfInBounds_toArray, List.set_cons_zero, List.set_cons_succ, i64_w, i32_w]
                                        rfl
                                      refine pure_ (i := 1) (N := some 50) (v := ?_) (a' := ?_) #[true, true, false, false, false, false, false, false] rfl rfl (any_of HT_.out (by kernel_rfl)) (fun _ _ _ h => h) (Or.inl ⟨by rfl, ?_⟩) ?_ ?_
                                      rotate_left
                                      · intro w'
                                        go_simp
                                        with_reducible rfl
                                      rotate_left
                                      · simp only [Act.put, List.setIfInBounds_toArray, List.set_cons_zero, List.set_cons_succ, i64_w, i32_w]
                                        rfl
                                      refine pure_ (i := 2) (N := some 51) (v := ?_) (a' := ?_) #[true, true, true, false, false, false, false, false] rfl rfl (any_of HT_.out (by kernel_rfl)) (fun _ _ _ h => h) (Or.inl ⟨by rfl, ?_⟩) ?_ ?_
                                      rotate_left
                                      · intro w'
                                        go_simp
                                        with_reducible rfl
                                      rotate_left
                                      · simp only [Act.put, List.setIfInBounds_toArray, List.set_cons_zero, List.set_cons_succ, i64_w, i32_w]
                                        rfl
                                      refine pure_ (i := 4) (N := some 53) (v := ?_) (a' := ?_) #[true, true, true, false, true, false, false, false] rfl rfl (any_of HT_.out (by kernel_rfl)) (fun _ _ _ h => h) (Or.inl ⟨by rfl, ?_⟩) ?_ ?_
                                      rotate_left
                                      · intro w'
                                        go_simp
                                        with_reducible rfl
                                      rotate_left
                                      · simp only [Act.put, List.setIfInBounds_toArray, List.set_cons_zero, List.set_cons_succ, i64_w, i32_w]
                                        rfl
                                      refine take_ (i := 3) (N := some 52) (v := ?_) (a' := ?_) #[true, true, true, true, true, false, false, false] rfl rfl (take_ofW HT_.out HW_.out (by kernel_rfl)) (fun _ _ _ h => h) (Or.inl ⟨by rfl, ?_⟩) hHeld ?_ ?_
                                      rotate_left
                                      · rintro w' ⟨s0, s1, s2⟩
                                        go_simp
                                        with_reducible rfl
                                      rotate_left
                                      · simp only [Act.put, List.setIfInBounds_toArray, List.set_cons_zero, List.set_cons_succ, i64_w, i32_w]
                                        rfl
                                      refine take_ (i := 5) (N := some 54) (v := ?_) (a' := ?_) #[true, true, true, true, true, true, false, false] rfl rfl (take_ofW HT_.out HW_.out (by kernel_rfl)) (fun _ _ _ h => h) (Or.inl ⟨by rfl, ?_⟩) hHeld ?_ ?_
                                      rotate_left
                                      · rintro w' ⟨s0, s1, s2⟩
                                        go_simp
                                        with_reducible rfl
                                      rotate_left
                                      · simp only [Act.put, List.setIfInBounds_toArray, List.set_cons_zero, List.set_cons_succ, i64_w, i32_w]
                                        rfl
                                      refine pure_ (i := 6) (N := some 55) (v := ?_) (a' := ?_) #[true, true, true, true, true, true, true, false] rfl rfl (any_of HT_.out (by kernel_rfl)) (fun _ _ _ h => h) (Or.inl ⟨by rfl, ?_⟩) ?_ ?_
                                      rotate_left
                                      · intro w'
                                        go_simp
                                        with_reducible rfl
                                      rotate_left
                                      · simp only [Act.put, List.setIfInBounds_toArray, List.set_cons_zero, List.set_cons_succ, i64_w, i32_w]
                                        rfl
                                      refine last_ (i := 7) (N := none) #[true, true, true, true, true, true, true, true] rfl rfl (one_of HT_.out (by kernel_rfl)) (by decide) (fun K hK => ?_)
                                      refine skip_ (w1 := ?_) (by rfl) rfl ?_ ?_
                                      rotate_left
                                      · go_simp
                                        rfl
                                      refine hK.out _ _ ?_
                                      clear hK K
                                      refine done_ (done_of HT_.out (by kernel_rfl)) ?_
                                      try go_wp2
                                      (try simp only [← hl3_3])
                                      go_roundg k3
                                      case measure => have := HK1.out; have := HK2.out; have := HK3.out; omega
                                      case rel => exact ⟨(y145), (wrap64 (x22_3 + 1)), (by first | rfl | (simp; done) | (simp [*]; done)), H', ⟨by have := HK1.out; have := HK2.out; have := HK3.out; omega⟩, ⟨by (try simp only [hl3_1]); (try simp only [hl3_2]); (try simp only [hl3_3]); (with_reducible repeat (first | apply Kd.S_alloc | apply Kd.S_drewN | apply Kd.S_drew)); exact Kd.S_mono HQ30.out (fun _ hk => trivial)⟩, ⟨by repeat (first | (with_reducible first | exact HB.out | apply below_alloc | apply pw_below_drewN | apply below_drew1 | refine below_set ?_ GB19.out | refine below_set ?_ GB19.out | refine below_set ?_ GE138.out) | exact HB.out)⟩⟩
                                    · replace c18 := Bool.eq_false_iff.mpr c18
                                      subst c18
                                      have H1 : (chart_closed.l2 k3 x3_3 x12_1 x17_2 (t129.length : Int) x12_1 (x3_1.length : Int) x17_2 (x3_2.length : Int) (wrap64 (x22_3 + 1))) = some r := by rw [if_neg (show ¬ (false = true) by decide)] at H; exact H
                                      clear H
                                      have H := H1
                                      clear H1
                                      have H' := Aside0.mk H
                                      clear H
                                      try go_wp2
                                      have n0_ := Aside0.mk (Kd.S_drew HO_3.out)
                                      have n1_ := Aside0.mk (below_drew1 HB.out)
                                      clear HO_3
                                      clear HB
                                      have HO_3 := n0_
                                      have HB := n1_
                                      clear n0_ n1_
                                      have p132 : 0 ≤ (x17_2 : Int) := of_decide_eq_true (by first | (with_reducible assumption) | assumption)
                                      have q132 : x17_2 < (x3_3.length : Int) := of_decide_eq_true (by first | (with_reducible assumption) | assumption)
                                      obtain ⟨ad132, A132_0, c132_0, e132, hx132_0, hl132_0, hi132_0⟩ := at_L3 (Kd.S_reads' HO_3.out).2.2 x17_2 p132 q132
                                      cases e132
                                      obtain ⟨ce132, hce132, hMe132, hcc132⟩ := Kd.S_get HO_3.out [] x17_2 p132 (by first | exact q132 | exact of_decide_eq_true (by first | (with_reducible assumption) | assumption) | (have e_ := (Kd.S_reads' HO_3.out).1; omega))
                                      obtain ⟨ve132_0, rfl, ge132_0⟩ := hMe132
                                      have hv132_0 := hcc132 0 _ rfl
                                      rw [Nat.add_zero, show ((Kd.slice 50 k50)).sz = 1 from rfl, Nat.mul_one] at hv132_0
                                      replace hv132_0 := Option.some.inj (hv132_0.symm.trans hx132_0)
                                      rw [hv132_0] at ge132_0
                                      have HL132_0 := Aside0.mk (show Kd.R k50 50 _ _ _ _ (rd_L3 x3_3 x17_2) from ge132_0)
                                      clear hv132_0 ge132_0
                                      have HX132_0 := Aside0.mk hx132_0
                                      clear hcc132 hce132
                                      have HR132_0 := Aside0.mk hi132_0
                                      have HC132_0 := Aside0.mk hl132_0
                                      clear hi132_0 hl132_0
                                      replace p132 := eq_true p132
                                      replace q132 := eq_true q132
                                      have p133 : 0 ≤ (x12_1 : Int) := of_decide_eq_true (by first | (with_reducible assumption) | assumption)
                                      have q133 : x12_1 < ((rd_L3 x3_3 x17_2).length : Int) := of_decide_eq_true (by first | (with_reducible assumption) | assumption)
                                      obtain ⟨ad133, e133, hx133_0, hx133_1⟩ := at_T50 (by repeat (first | (with_reducible exact HR132_0.out) | (with_reducible refine Kd.C_alloc ?_ _) | (with_reducible refine Kd.C_drewN ?_ _) | (with_reducible refine Kd.C_drew ?_) | exact HR132_0.out)) x12_1 p133 q133
                                      cases e133
                                      replace p133 := eq_true p133
                                      replace q133 := eq_true q133
                                      have p134 : 0 ≤ (x12_1 : Int) := of_decide_eq_true (by first | (with_reducible assumption) | assumption)
                                      have q134 : x12_1 < (x3_3.length : Int) := of_decide_eq_true (by first | (with_reducible assumption) | assumption)
                                      obtain ⟨ad134, A134_0, c134_0, e134, hx134_0, hl134_0, hi134_0⟩ := at_L3 (Kd.S_reads' HO_3.out).2.2 x12_1 p134 q134
                                      obtain rfl : ad132 = ad134 := (by injection e134)
                                      obtain ⟨ce134, hce134, hMe134, hcc134⟩ := Kd.S_get HO_3.out [] x12_1 p134 (by first | exact q134 | exact of_decide_eq_true (by first | (with_reducible assumption) | assumption) | (have e_ := (Kd.S_reads' HO_3.out).1; omega))
                                      obtain ⟨ve134_0, rfl, ge134_0⟩ := hMe134
                                      have hv134_0 := hcc134 0 _ rfl
                                      rw [Nat.add_zero, show ((Kd.slice 50 k50)).sz = 1 from rfl, Nat.mul_one] at hv134_0
                                      replace hv134_0 := Option.some.inj (hv134_0.symm.trans hx134_0)
                                      rw [hv134_0] at ge134_0
                                      have HL134_0 := Aside0.mk (show Kd.R k50 50 _ _ _ _ (rd_L3 x3_3 x12_1) from ge134_0)
                                      clear hv134_0 ge134_0
                                      have HX134_0 := Aside0.mk hx134_0
                                      clear hcc134 hce134
                                      have HR134_0 := Aside0.mk hi134_0
                                      have HC134_0 := Aside0.mk hl134_0
                                      clear hi134_0 hl134_0
                                      replace p134 := eq_true p134
                                      replace q134 := eq_true q134
                                      have p135 : 0 ≤ (x22_3 : Int) := of_decide_eq_true (by first | (with_reducible assumption) | assumption)
                                      have q135 : x22_3 < ((rd_L3 x3_3 x12_1).length : Int) := of_decide_eq_true (by first | (with_reducible assumption) | assumption)
                                      obtain ⟨ad135, e135, hx135_0, hx135_1⟩ := at_T50 (by repeat (first | (with_reducible exact HR134_0.out) | (with_reducible refine Kd.C_alloc ?_ _) | (with_reducible refine Kd.C_drewN ?_ _) | (with_reducible refine Kd.C_drew ?_) | exact HR134_0.out)) x22_3 p135 q135
                                      cases e135
                                      replace p135 := eq_true p135
                                      replace q135 := eq_true q135
                                      refine start_ (n := 17) (S := fun w' => w'.cell? (ad132.add (x17_2).toNat) = some (.slice (some ad133) (rd_L3 x3_3 x17_2).length c132_0) ∧ w'.cell? (ad133.add ((x12_1).toNat * 2)) = some (.int .i64 ((rd_T50 (rd_L3 x3_3 x17_2) x12_1).f0)) ∧ w'.cell? ⟨(ad133.add ((x12_1).toNat * 2)).block, (ad133.add ((x12_1).toNat * 2)).off + 1, none⟩ = some (.int .i64 ((rd_T50 (rd_L3 x3_3 x17_2) x12_1).f1)) ∧ w'.cell? (ad132.add (x12_1).toNat) = some (.slice (some ad135) (rd_L3 x3_3 x12_1).length c134_0) ∧ w'.cell? (ad135.add ((x22_3).toNat * 2)) = some (.int .i64 ((rd_T50 (rd_L3 x3_3 x12_1) x22_3).f0)) ∧ w'.cell? ⟨(ad135.add ((x22_3).toNat * 2)).block, (ad135.add ((x22_3).toNat * 2)).off + 1, none⟩ = some (.int .i64 ((rd_T50 (rd_L3 x3_3 x12_1) x22_3).f1))) (ds := []) #[false, false, false, false, false, false, false, false, false, false, false, false, false, false, false, false, false] (by kernel_rfl) rfl rfl ⟨hx132_0, hx133_0, hx133_1, hx134_0, hx135_0, hx135_1⟩ (fun hHeld => ?_); refine with_tabW chart_closed.tab11 chart_closed.bits11 (fun HT_ HW_ => ?_)
                                      generalize wr.drew = w32 at HO_3 HB HL132_0 HL134_0 HR132_0 HR134_0 HX132_0 HX134_0 hx132_0 hx133_0 hx133_1 hx134_0 hx135_0 hx135_1 hHeld ⊢
                                      refine pure_ (i := 0) (N := some 25) (v := ?_) (a' := ?_) #[true, false, false, false, false, false, false, false, false, false, false, false, false, false, false, false, false] rfl rfl (any_of HT_.out (by kernel_rfl)) (fun _ _ _ h => h) (Or.inl ⟨by rfl, ?_⟩) ?_ ?_
                                      rotate_left
                                      · intro w'
                                        go_simp
                                        with_reducible rfl
                                      rotate_left
                                      · simp only [Act.put, List.setIfInBounds_toArray, List.set_cons_zero, List.set_cons_succ, i64_w, i32_w]
                                        rfl
                                      refine pure_ (i := 1) (N := some 26) (v := ?_) (a' := ?_) #[true, true, false, false, false, false, false, false, false, false, false, false, false, false, false, false, false] rfl rfl (any_of HT_.out (by kernel_rfl)) (fun _ _ _ h => h) (Or.inl ⟨by rfl, ?_⟩) ?_ ?_
                                      rotate_left
                                      · intro w'
                                        go_simp
                                        with_reducible rfl
                                      rotate_left
                                      · simp only [Act.put, List.setIfInBounds_toArray, List.set_cons_zero, List.set_cons_succ, i64_w, i32_w]
                                        rfl
                                      refine pure_ (i := 2) (N := some 27) (v := ?_) (a' := ?_) #[true, true, true, false, false, false, false, false, false, false, false, false, false, false, false, false, false] rfl rfl (any_of HT_.out (by kernel_rfl)) (fun _ _ _ h => h) (Or.inl ⟨by rfl, ?_⟩) ?_ ?_
                                      rotate_left
                                      · intro w'
                                        go_simp
                                        with_reducible rfl
                                      rotate_left
                                      · simp only [Act.put, List.setIfInBounds_toArray, List.set_cons_zero, List.set_cons_succ, i64_w, i32_w]
                                        rfl
                                      refine pure_ (i := 4) (N := some 29) (v := ?_) (a' := ?_) #[true, true, true, false, true, false, false, false, false, false, false, false, false, false, false, false, false] rfl rfl (any_of HT_.out (by kernel_rfl)) (fun _ _ _ h => h) (Or.inl ⟨by rfl, ?_⟩) ?_ ?_
                                      rotate_left
                                      · intro w'
                                        go_simp
                                        with_reducible rfl
                                      rotate_left
                                      · simp only [Act.put, List.setIfInBounds_toArray, List.set_cons_zero, List.set_cons_succ, i64_w, i32_w]
                                        rfl
                                      refine pure_ (i := 7) (N := some 32) (v := ?_) (a' := ?_) #[true, true, true, false, true, false, false, true, false, false, false, false, false, false, false, false, false] rfl rfl (any_of HT_.out (by kernel_rfl)) (fun _ _ _ h => h) (Or.inl ⟨by rfl, ?_⟩) ?_ ?_
                                      rotate_left
                                      · intro w'
                                        go_simp
                                        with_reducible rfl
                                      rotate_left
                                      · simp only [Act.put, List.setIfInBounds_toArray, List.set_cons_zero, List.set_cons_succ, i64_w, i32_w]
                                        rfl
                                      refine pure_ (i := 8) (N := some 33) (v := ?_) (a' := ?_) #[true, true, true, false, true, false, false, true, true, false, false, false, false, false, false, false, false] rfl rfl (any_of HT_.out (by kernel_rfl)) (fun _ _ _ h => h) (Or.inl ⟨by rfl, ?_⟩) ?_ ?_
                                      rotate_left
                                      · intro w'
                                        go_simp
                                        with_reducible rfl
                                      rotate_left
                                      · simp only [Act.put, List.setIfInBounds_toArray, List.set_cons_zero, List.set_cons_succ, i64_w, i32_w]
                                        rfl
                                      refine pure_ (i := 9) (N := some 34) (v := ?_) (a' := ?_) #[true, true, true, false, true, false, false, true, true, true, false, false, false, false, false, false, false] rfl rfl (any_of HT_.out (by kernel_rfl)) (fun _ _ _ h => h) (Or.inl ⟨by rfl, ?_⟩) ?_ ?_
                                      rotate_left
                                      · intro w'
                                        go_simp
                                        with_reducible rfl
                                      rotate_left
                                      · simp only [Act.put, List.setIfInBounds_toArray, List.set_cons_zero, List.set_cons_succ, i64_w, i32_w]
                                        rfl
                                      refine pure_ (i := 11) (N := some 36) (v := ?_) (a' := ?_) #[true, true, true, false, true, false, false, true, true, true, false, true, false, false, false, false, false] rfl rfl (any_of HT_.out (by kernel_rfl)) (fun _ _ _ h => h) (Or.inl ⟨by rfl, ?_⟩) ?_ ?_
                                      rotate_left
                                      · intro w'
                                        go_simp
                                        with_reducible rfl
                                      rotate_left
                                      · simp only [Act.put, List.setIfInBounds_toArray, List.set_cons_zero, List.set_cons_succ, i64_w, i32_w]
                                        rfl
                                      refine take_ (i := 3) (N := some 28) (v := ?_) (a' := ?_) #[true, true, true, true, true, false, false, true, true, true, false, true, false, false, false, false, false] rfl rfl (take_ofW HT_.out HW_.out (by kernel_rfl)) (fun _ _ _ h => h) (Or.inl ⟨by rfl, ?_⟩) hHeld ?_ ?_
                                      rotate_left
                                      · rintro w' ⟨s0, s1, s2, s3, s4, s5⟩
                                        go_simp
                                        with_reducible rfl
                                      rotate_left
                                      · simp only [Act.put, List.setIfInBounds_toArray, List.set_cons_zero, List.set_cons_succ, i64_w, i32_w]
                                        rfl
                                      refine pure_ (i := 5) (N := some 30) (v := ?_) (a' := ?_) #[true, true, true, true, true, true, false, true, true, true, false, true, false, false, false, false, false] rfl rfl (any_of HT_.out (by kernel_rfl)) (fun _ _ _ h => h) (Or.inl ⟨by rfl, ?_⟩) ?_ ?_
                                      rotate_left
                                      · intro w'
                                        go_simp
                                        with_reducible rfl
                                      rotate_left
                                      · simp only [Act.put, List.setIfInBounds_toArray, List.set_cons_zero, List.set_cons_succ, i64_w, i32_w]
                                        rfl
                                      refine take_ (i := 6) (N := some 31) (v := ?_) (a' := ?_) #[true, true, true, true, true, true, true, true, true, true, false, true, false, false, false, false, false] rfl rfl (take_ofW HT_.out HW_.out (by kernel_rfl)) (fun _ _ _ h => h) (Or.inl ⟨by rfl, ?_⟩) hHeld ?_ ?_
                                      rotate_left
                                      · rintro w' ⟨s0, s1, s2, s3, s4, s5⟩
                                        go_simp
                                        with_reducible rfl
                                      rotate_left
                                      · simp only [Act.put, List.setIfInBounds_toArray, List.set_cons_zero, List.set_cons_succ, i64_w, i32_w]
                                        rfl
                                      refine take_ (i := 10) (N := some 35) (v := ?_) (a' := ?_) #[true, true, true, true, true, true, true, true, true, true, true, true, false, false, false, false, false] rfl rfl (take_ofW HT_.out HW_.out (by kernel_rfl)) (fun _ _ _ h => h) (Or.inl ⟨by rfl, ?_⟩) hHeld ?_ ?_
                                      rotate_left
                                      · rintro w' ⟨s0, s1, s2, s3, s4, s5⟩
                                        go_simp
                                        with_reducible rfl
                                      rotate_left
                                      · simp only [Act.put, List.setIfInBounds_toArray, List.set_cons_zero, List.set_cons_succ, i64_w, i32_w]
                                        rfl
                                      refine pure_ (i := 12) (N := some 37) (v := ?_) (a' := ?_) #[true, true, true, true, true, true, true, true, true, true, true, true, true, false, false, false, false] rfl rfl (any_of HT_.out (by kernel_rfl)) (fun _ _ _ h => h) (Or.inl ⟨by rfl, ?_⟩) ?_ ?_
                                      rotate_left
                                      · intro w'
                                        go_simp
                                        with_reducible rfl
                                      rotate_left
                                      · simp only [Act.put, List.setIfInBounds_toArray, List.set_cons_zero, List.set_cons_succ, i64_w, i32_w]
                                        rfl
                                      refine take_ (i := 13) (N := some 38) (v := ?_) (a' := ?_) #[true, true, true, true, true, true, true, true, true, true, true, true, true, true, false, false, false] rfl rfl (take_ofW HT_.out HW_.out (by kernel_rfl)) (fun _ _ _ h => h) (Or.inl ⟨by rfl, ?_⟩) hHeld ?_ ?_
                                      rotate_left
                                      · rintro w' ⟨s0, s1, s2, s3, s4, s5⟩
                                        go_simp
                                        with_reducible rfl
                                      rotate_left
                                      · simp only [Act.put, List.setIfInBounds_toArray, List.set_cons_zero, List.set_cons_succ, i64_w, i32_w]
                                        rfl
                                      refine join_ (σ := Nat) 1 #[true, true, true, true, true, true, true, true, true, true, true, true, true, true, true, true, false] (fun s_ => [(39, .agg #[.int .i64 t136, .int .i64 t137]), (7, .pointer (some ⟨s_, 0, none⟩))]) (fun s_ w' => (w'.cell? (ad132.add (x17_2).toNat) = some (.slice (some ad133) (rd_L3 x3_3 x17_2).length c132_0) ∧ w'.cell? (ad133.add ((x12_1).toNat * 2)) = some (.int .i64 ((rd_T50 (rd_L3 x3_3 x17_2) x12_1).f0)) ∧ w'.cell? ⟨(ad133.add ((x12_1).toNat * 2)).block, (ad133.add ((x12_1).toNat * 2)).off + 1, none⟩ = some (.int .i64 ((rd_T50 (rd_L3 x3_3 x17_2) x12_1).f1)) ∧ w'.cell? (ad132.add (x12_1).toNat) = some (.slice (some ad135) (rd_L3 x3_3 x12_1).length c134_0) ∧ w'.cell? (ad135.add ((x22_3).toNat * 2)) = some (.int .i64 ((rd_T50 (rd_L3 x3_3 x12_1) x22_3).f0)) ∧ w'.cell? ⟨(ad135.add ((x22_3).toNat * 2)).block, (ad135.add ((x22_3).toNat * 2)).off + 1, none⟩ = some (.int .i64 ((rd_T50 (rd_L3 x3_3 x12_1) x22_3).f1))) ∧ (Kd.R k50 50 w' w.heap.size (fun k_ => some k_ ≠ (.slice (some ad132) x3_3.length co4 : Value).ownBlock ∧ k_ ≠ s_) (.slice (some ad133) (rd_L3 x3_3 x17_2).length c132_0) (rd_L3 x3_3 x17_2)) ∧ (Kd.R k50 50 w' w.heap.size (fun k_ => some k_ ≠ (.slice (some ad132) x3_3.length co4 : Value).ownBlock ∧ k_ ≠ s_) (.slice (some ad135) (rd_L3 x3_3 x12_1).length c134_0) (rd_L3 x3_3 x12_1)) ∧ (Kd.S (Kd.slice 50 k50) 48 w' w.heap.size (fun k_ => k_ ≠ s_) (.slice (some ad132) x3_3.length co4) x3_3) ∧ (w'.cell? (ad132.add (x17_2).toNat) = some (.slice (some ad133) (rd_L3 x3_3 x17_2).length c132_0)) ∧ (w'.cell? (ad132.add (x12_1).toNat) = some (.slice (some ad135) (rd_L3 x3_3 x12_1).length c134_0)) ∧ (w'.heap[s_]? = some (.cells #[.int .i64 0, .int .i64 0] 50 (0, 0))) ∧ (w.heap.size ≤ s_) ∧ (w.heap.size ≤ s_) ∧ (Below w.heap.size w w')) ?_ ?_
                                      rotate_left
                                      · intro hCont
                                        refine two_ (i := 14) (j := 15) (Ni := some 39) (Nj := some 7) #[true, true, true, true, true, true, true, true, true, true, true, true, true, true, true, false, false] #[true, true, true, true, true, true, true, true, true, true, true, true, true, true, false, true, false] rfl rfl rfl rfl (two_of HT_.out (by kernel_rfl)) (by decide) (by decide) (fun K hK => ?_) (fun K hK => ?_)
                                        · skip
                                          refine goes_ Try.func26 (by kernel_rfl) rfl #[.agg #[.int .i64 ((rd_T50 (rd_L3 x3_3 x17_2) x12_1).f0), .int .i64 ((rd_T50 (rd_L3 x3_3 x17_2) x12_1).f1)], .agg #[.int .i64 ((rd_T50 (rd_L3 x3_3 x12_1) x22_3).f0), .int .i64 ((rd_T50 (rd_L3 x3_3 x12_1) x22_3).f1)]] (by rfl) rfl rfl (by (try simp only [List.map_toArray, List.map_cons, List.map_nil]); first | done | rfl | (simp only [List.length_drop, List.length_take]; rfl)) ?_
                                          with_reducible refine (chart_leg_and.calls ((rd_T50 (rd_L3 x3_3 x17_2) x12_1).f0) ((rd_T50 (rd_L3 x3_3 x17_2) x12_1).f1) ((rd_T50 (rd_L3 x3_3 x12_1) x22_3).f0) ((rd_T50 (rd_L3 x3_3 x12_1) x22_3).f1) t136 t137 _ A15.out).mono ?_
                                          rintro e w33 ⟨rfl, hb⟩
                                          have HS0_ := (hb.cell (World.block_lt_of_cell? _ _ (hHeld.1))).trans (hHeld.1)
                                          have HS1_ := (hb.cell (World.block_lt_of_cell? _ _ (hHeld.2.1))).trans (hHeld.2.1)
                                          have HS2_ := (hb.cell (World.block_lt_of_cell? _ _ (hHeld.2.2.1))).trans (hHeld.2.2.1)
                                          have HS3_ := (hb.cell (World.block_lt_of_cell? _ _ (hHeld.2.2.2.1))).trans (hHeld.2.2.2.1)
                                          have HS4_ := (hb.cell (World.block_lt_of_cell? _ _ (hHeld.2.2.2.2.1))).trans (hHeld.2.2.2.2.1)
                                          have HS5_ := (hb.cell (World.block_lt_of_cell? _ _ (hHeld.2.2.2.2.2))).trans (hHeld.2.2.2.2.2)
                                          refine ⟨_, rfl, ?_⟩
                                          have n0_ := Aside0.mk (Kd.S_below (by (with_reducible repeat (first | apply Kd.S_alloc | apply Kd.S_drewN | apply Kd.S_drew)); exact HO_3.out) hb)
                                          have n1_ := Aside0.mk (Kd.R_below (by (with_reducible repeat (first | apply Kd.R_alloc | apply Kd.R_drewN | apply Kd.R_drew)); exact HL132_0.out) hb)
                                          have n2_ := Aside0.mk (Kd.R_below (by (with_reducible repeat (first | apply Kd.R_alloc | apply Kd.R_drewN | apply Kd.R_drew)); exact HL134_0.out) hb)
                                          have n3_ := Aside0.mk (Kd.C_below (by repeat (first | (with_reducible exact HR132_0.out) | (with_reducible refine Kd.C_alloc ?_ _) | (with_reducible refine Kd.C_drewN ?_ _) | (with_reducible refine Kd.C_drew ?_) | exact HR132_0.out)) hb)
                                          have n4_ := Aside0.mk (pw_cell_below hb HX132_0.out)
                                          have n5_ := Aside0.mk (Kd.C_below (by repeat (first | (with_reducible exact HR134_0.out) | (with_reducible refine Kd.C_alloc ?_ _) | (with_reducible refine Kd.C_drewN ?_ _) | (with_reducible refine Kd.C_drew ?_) | exact HR134_0.out)) hb)
                                          have n6_ := Aside0.mk (pw_cell_below hb HX134_0.out)
                                          have n7_ := Aside0.mk (below_step (by repeat (first | (with_reducible first | exact HB.out | apply below_alloc | apply pw_below_drewN | apply below_drew1) | exact HB.out)) hb)
                                          clear HO_3
                                          clear HL132_0
                                          clear HL134_0
                                          clear HR132_0
                                          clear HX132_0
                                          clear HR134_0
                                          clear HX134_0
                                          clear HB
                                          have HO_3 := n0_
                                          have HL132_0 := n1_
                                          have HL134_0 := n2_
                                          have HR132_0 := n3_
                                          have HX132_0 := n4_
                                          have HR134_0 := n5_
                                          have HX134_0 := n6_
                                          have HB := n7_
                                          clear n0_ n1_ n2_ n3_ n4_ n5_ n6_ n7_
                                          (try clear hb)
                                          (try clear hb2)
                                          (try clear hk)
                                          (try clear hi)
                                          refine hK.out _ _ ⟨HS0_, HS1_, HS2_, HS3_, HS4_, HS5_⟩ (fun hHeld => ?_)
                                          clear hK K
                                          refine norm_ (a' := ?_) ?_ ?_
                                          rotate_left
                                          · show Act.put _ (some 39) _ = _
                                            simp only [Act.put, List.setIfInBounds_toArray, List.set_cons_zero, List.set_cons_succ, i64_w, i32_w]
                                            rfl
                                          refine one_ (i := 15) (N := some 7) #[true, true, true, true, true, true, true, true, true, true, true, true, true, true, true, true, false] rfl rfl (one_of HT_.out (by kernel_rfl)) (by decide) (fun K hK => ?_)
                                          refine box_step ?hg (N := 7) ?hd (cs := #[.int .i64 0, .int .i64 0]) (t := 50) ?hr ?_; (case hd => rfl); (case hg => rfl); (case hr => first | (go_simp; done) | (go_simp; rfl))
                                          intro gb138 hg w34 hbox hb
                                          have HS0_ := (hb.cell (World.block_lt_of_cell? _ _ (hHeld.1))).trans (hHeld.1)
                                          have HS1_ := (hb.cell (World.block_lt_of_cell? _ _ (hHeld.2.1))).trans (hHeld.2.1)
                                          have HS2_ := (hb.cell (World.block_lt_of_cell? _ _ (hHeld.2.2.1))).trans (hHeld.2.2.1)
                                          have HS3_ := (hb.cell (World.block_lt_of_cell? _ _ (hHeld.2.2.2.1))).trans (hHeld.2.2.2.1)
                                          have HS4_ := (hb.cell (World.block_lt_of_cell? _ _ (hHeld.2.2.2.2.1))).trans (hHeld.2.2.2.2.1)
                                          have HS5_ := (hb.cell (World.block_lt_of_cell? _ _ (hHeld.2.2.2.2.2))).trans (hHeld.2.2.2.2.2)
                                          have n0_ := Aside0.mk (Kd.S_below (Kd.S_elderB (by (with_reducible repeat (first | apply Kd.S_alloc | apply Kd.S_drewN | apply Kd.S_drew)); exact HO_3.out) gb138 (Nat.le_of_eq hg.symm)) hb)
                                          have n1_ := Aside0.mk (Kd.R_below (Kd.R_elderB (by (with_reducible repeat (first | apply Kd.R_alloc | apply Kd.R_drewN | apply Kd.R_drew)); exact HL132_0.out) gb138 (Nat.le_of_eq hg.symm)) hb)
                                          have n2_ := Aside0.mk (Kd.R_below (Kd.R_elderB (by (with_reducible repeat (first | apply Kd.R_alloc | apply Kd.R_drewN | apply Kd.R_drew)); exact HL134_0.out) gb138 (Nat.le_of_eq hg.symm)) hb)
                                          have n3_ := Aside0.mk (Kd.C_below (by repeat (first | (with_reducible exact HR132_0.out) | (with_reducible refine Kd.C_alloc ?_ _) | (with_reducible refine Kd.C_drewN ?_ _) | (with_reducible refine Kd.C_drew ?_) | exact HR132_0.out)) hb)
                                          have n4_ := Aside0.mk (pw_cell_below hb HX132_0.out)
                                          have n5_ := Aside0.mk (Kd.C_below (by repeat (first | (with_reducible exact HR134_0.out) | (with_reducible refine Kd.C_alloc ?_ _) | (with_reducible refine Kd.C_drewN ?_ _) | (with_reducible refine Kd.C_drew ?_) | exact HR134_0.out)) hb)
                                          have n6_ := Aside0.mk (pw_cell_below hb HX134_0.out)
                                          have n7_ := Aside0.mk (below_step (by repeat (first | (with_reducible first | exact HB.out | apply below_alloc | apply pw_below_drewN | apply below_drew1) | exact HB.out)) hb)
                                          have n8_ := Aside0.mk (hbox)
                                          have n9_ := Aside0.mk ((by rw [hg]; exact (below_size (by repeat (first | (with_reducible first | exact HB.out | apply below_alloc | apply pw_below_drewN | apply below_drew1) | exact HB.out))) : w.heap.size ≤ gb138))
                                          have n10_ := Aside0.mk ((by rw [hg]; exact (below_size (by repeat (first | (with_reducible first | exact HB.out | apply below_alloc | apply pw_below_drewN | apply below_drew1) | exact HB.out))) : w.heap.size ≤ gb138))
                                          clear HO_3
                                          clear HL132_0
                                          clear HL134_0
                                          clear HR132_0
                                          clear HX132_0
                                          clear HR134_0
                                          clear HX134_0
                                          clear HB
                                          have HO_3 := n0_
                                          have HL132_0 := n1_
                                          have HL134_0 := n2_
                                          have HR132_0 := n3_
                                          have HX132_0 := n4_
                                          have HR134_0 := n5_
                                          have HX134_0 := n6_
                                          have HB := n7_
                                          have BK138 := n8_
                                          have GW138 := n9_
                                          have GE138 := n10_
                                          clear n0_ n1_ n2_ n3_ n4_ n5_ n6_ n7_ n8_ n9_ n10_
                                          clear hb hbox hg
                                          refine hK.out _ _ ⟨HS0_, HS1_, HS2_, HS3_, HS4_, HS5_⟩ (fun hHeld => ?_)
                                          clear hK K
                                          refine norm_ (a' := ?_) ?_ ?_
                                          rotate_left
                                          · show Act.put _ (some 7) _ = _
                                            simp only [Act.put, List.setIfInBounds_toArray, List.set_cons_zero, List.set_cons_succ, i64_w, i32_w]
                                            rfl
                                          exact norm_ (by simp only [putAll, Act.put, List.setIfInBounds_toArray, List.set_cons_zero, List.set_cons_succ]) (hCont (gb138) _ ⟨hHeld, (by (with_reducible repeat (first | apply Kd.R_alloc | apply Kd.R_drewN | apply Kd.R_drew)); exact Kd.R_mono HL132_0.out (fun _ hk => ⟨hk.1.2, hk.2⟩)), (by (with_reducible repeat (first | apply Kd.R_alloc | apply Kd.R_drewN | apply Kd.R_drew)); exact Kd.R_mono HL134_0.out (fun _ hk => ⟨hk.1.2, hk.2⟩)), (by (with_reducible repeat (first | apply Kd.S_alloc | apply Kd.S_drewN | apply Kd.S_drew)); exact Kd.S_mono HO_3.out (fun _ hk => hk.2)), HX132_0.out, HX134_0.out, (by (with_reducible repeat (first | refine blk_drewN ?_ _ | refine blk_drew ?_ | refine blk_alloc ?_ _)); exact BK138.out), GW138.out, GE138.out, (by repeat (first | (with_reducible first | exact HB.out | apply below_alloc | apply pw_below_drewN | apply below_drew1 | refine below_set ?_ GE138.out) | exact HB.out))⟩)
                                        · skip
                                          refine box_step ?hg (N := 7) ?hd (cs := #[.int .i64 0, .int .i64 0]) (t := 50) ?hr ?_; (case hd => rfl); (case hg => rfl); (case hr => first | (go_simp; done) | (go_simp; rfl))
                                          intro gb138 hg w33 hbox hb
                                          have HS0_ := (hb.cell (World.block_lt_of_cell? _ _ (hHeld.1))).trans (hHeld.1)
                                          have HS1_ := (hb.cell (World.block_lt_of_cell? _ _ (hHeld.2.1))).trans (hHeld.2.1)
                                          have HS2_ := (hb.cell (World.block_lt_of_cell? _ _ (hHeld.2.2.1))).trans (hHeld.2.2.1)
                                          have HS3_ := (hb.cell (World.block_lt_of_cell? _ _ (hHeld.2.2.2.1))).trans (hHeld.2.2.2.1)
                                          have HS4_ := (hb.cell (World.block_lt_of_cell? _ _ (hHeld.2.2.2.2.1))).trans (hHeld.2.2.2.2.1)
                                          have HS5_ := (hb.cell (World.block_lt_of_cell? _ _ (hHeld.2.2.2.2.2))).trans (hHeld.2.2.2.2.2)
                                          have n0_ := Aside0.mk (Kd.S_below (Kd.S_elderB (by (with_reducible repeat (first | apply Kd.S_alloc | apply Kd.S_drewN | apply Kd.S_drew)); exact HO_3.out) gb138 (Nat.le_of_eq hg.symm)) hb)
                                          have n1_ := Aside0.mk (Kd.R_below (Kd.R_elderB (by (with_reducible repeat (first | apply Kd.R_alloc | apply Kd.R_drewN | apply Kd.R_drew)); exact HL132_0.out) gb138 (Nat.le_of_eq hg.symm)) hb)
                                          have n2_ := Aside0.mk (Kd.R_below (Kd.R_elderB (by (with_reducible repeat (first | apply Kd.R_alloc | apply Kd.R_drewN | apply Kd.R_drew)); exact HL134_0.out) gb138 (Nat.le_of_eq hg.symm)) hb)
                                          have n3_ := Aside0.mk (Kd.C_below (by repeat (first | (with_reducible exact HR132_0.out) | (with_reducible refine Kd.C_alloc ?_ _) | (with_reducible refine Kd.C_drewN ?_ _) | (with_reducible refine Kd.C_drew ?_) | exact HR132_0.out)) hb)
                                          have n4_ := Aside0.mk (pw_cell_below hb HX132_0.out)
                                          have n5_ := Aside0.mk (Kd.C_below (by repeat (first | (with_reducible exact HR134_0.out) | (with_reducible refine Kd.C_alloc ?_ _) | (with_reducible refine Kd.C_drewN ?_ _) | (with_reducible refine Kd.C_drew ?_) | exact HR134_0.out)) hb)
                                          have n6_ := Aside0.mk (pw_cell_below hb HX134_0.out)
                                          have n7_ := Aside0.mk (below_step (by repeat (first | (with_reducible first | exact HB.out | apply below_alloc | apply pw_below_drewN | apply below_drew1) | exact HB.out)) hb)
                                          have n8_ := Aside0.mk (hbox)
                                          have n9_ := Aside0.mk ((by rw [hg]; exact (below_size (by repeat (first | (with_reducible first | exact HB.out | apply below_alloc | apply pw_below_drewN | apply below_drew1) | exact HB.out))) : w.heap.size ≤ gb138))
                                          have n10_ := Aside0.mk ((by rw [hg]; exact (below_size (by repeat (first | (with_reducible first | exact HB.out | apply below_alloc | apply pw_below_drewN | apply below_drew1) | exact HB.out))) : w.heap.size ≤ gb138))
                                          clear HO_3
                                          clear HL132_0
                                          clear HL134_0
                                          clear HR132_0
                                          clear HX132_0
                                          clear HR134_0
                                          clear HX134_0
                                          clear HB
                                          have HO_3 := n0_
                                          have HL132_0 := n1_
                                          have HL134_0 := n2_
                                          have HR132_0 := n3_
                                          have HX132_0 := n4_
                                          have HR134_0 := n5_
                                          have HX134_0 := n6_
                                          have HB := n7_
                                          have BK138 := n8_
                                          have GW138 := n9_
                                          have GE138 := n10_
                                          clear n0_ n1_ n2_ n3_ n4_ n5_ n6_ n7_ n8_ n9_ n10_
                                          clear hb hbox hg
                                          refine hK.out _ _ ⟨HS0_, HS1_, HS2_, HS3_, HS4_, HS5_⟩ (fun hHeld => ?_)
                                          clear hK K
                                          refine norm_ (a' := ?_) ?_ ?_
                                          rotate_left
                                          · show Act.put _ (some 7) _ = _
                                            simp only [Act.put, List.setIfInBounds_toArray, List.set_cons_zero, List.set_cons_succ, i64_w, i32_w]
                                            rfl
                                          refine one_ (i := 14) (N := some 39) #[true, true, true, true, true, true, true, true, true, true, true, true, true, true, true, true, false] rfl rfl (one_of HT_.out (by kernel_rfl)) (by decide) (fun K hK => ?_)
                                          refine goes_ Try.func26 (by kernel_rfl) rfl #[.agg #[.int .i64 ((rd_T50 (rd_L3 x3_3 x17_2) x12_1).f0), .int .i64 ((rd_T50 (rd_L3 x3_3 x17_2) x12_1).f1)], .agg #[.int .i64 ((rd_T50 (rd_L3 x3_3 x12_1) x22_3).f0), .int .i64 ((rd_T50 (rd_L3 x3_3 x12_1) x22_3).f1)]] (by rfl) rfl rfl (by (try simp only [List.map_toArray, List.map_cons, List.map_nil]); first | done | rfl | (simp only [List.length_drop, List.length_take]; rfl)) ?_
                                          with_reducible refine (chart_leg_and.calls ((rd_T50 (rd_L3 x3_3 x17_2) x12_1).f0) ((rd_T50 (rd_L3 x3_3 x17_2) x12_1).f1) ((rd_T50 (rd_L3 x3_3 x12_1) x22_3).f0) ((rd_T50 (rd_L3 x3_3 x12_1) x22_3).f1) t136 t137 _ A15.out).mono ?_
                                          rintro e w34 ⟨rfl, hb⟩
                                          have HS0_ := (hb.cell (World.block_lt_of_cell? _ _ (hHeld.1))).trans (hHeld.1)
                                          have HS1_ := (hb.cell (World.block_lt_of_cell? _ _ (hHeld.2.1))).trans (hHeld.2.1)
                                          have HS2_ := (hb.cell (World.block_lt_of_cell? _ _ (hHeld.2.2.1))).trans (hHeld.2.2.1)
                                          have HS3_ := (hb.cell (World.block_lt_of_cell? _ _ (hHeld.2.2.2.1))).trans (hHeld.2.2.2.1)
                                          have HS4_ := (hb.cell (World.block_lt_of_cell? _ _ (hHeld.2.2.2.2.1))).trans (hHeld.2.2.2.2.1)
                                          have HS5_ := (hb.cell (World.block_lt_of_cell? _ _ (hHeld.2.2.2.2.2))).trans (hHeld.2.2.2.2.2)
                                          refine ⟨_, rfl, ?_⟩
                                          have n0_ := Aside0.mk (Kd.S_below (by (with_reducible repeat (first | apply Kd.S_alloc | apply Kd.S_drewN | apply Kd.S_drew)); exact HO_3.out) hb)
                                          have n1_ := Aside0.mk (Kd.R_below (by (with_reducible repeat (first | apply Kd.R_alloc | apply Kd.R_drewN | apply Kd.R_drew)); exact HL132_0.out) hb)
                                          have n2_ := Aside0.mk (Kd.R_below (by (with_reducible repeat (first | apply Kd.R_alloc | apply Kd.R_drewN | apply Kd.R_drew)); exact HL134_0.out) hb)
                                          have n3_ := Aside0.mk (Kd.C_below (by repeat (first | (with_reducible exact HR132_0.out) | (with_reducible refine Kd.C_alloc ?_ _) | (with_reducible refine Kd.C_drewN ?_ _) | (with_reducible refine Kd.C_drew ?_) | exact HR132_0.out)) hb)
                                          have n4_ := Aside0.mk (pw_cell_below hb HX132_0.out)
                                          have n5_ := Aside0.mk (Kd.C_below (by repeat (first | (with_reducible exact HR134_0.out) | (with_reducible refine Kd.C_alloc ?_ _) | (with_reducible refine Kd.C_drewN ?_ _) | (with_reducible refine Kd.C_drew ?_) | exact HR134_0.out)) hb)
                                          have n6_ := Aside0.mk (pw_cell_below hb HX134_0.out)
                                          have n7_ := Aside0.mk (blk_below (g := gb138) (o := .cells #[.int .i64 0, .int .i64 0] 50 (0, 0)) (by (with_reducible repeat (first | refine blk_drewN ?_ _ | refine blk_drew ?_ | refine blk_alloc ?_ _)); exact BK138.out) hb)
                                          have n8_ := Aside0.mk (below_step (by repeat (first | (with_reducible first | exact HB.out | apply below_alloc | apply pw_below_drewN | apply below_drew1 | refine below_set ?_ GE138.out) | exact HB.out)) hb)
                                          clear HO_3
                                          clear HL132_0
                                          clear HL134_0
                                          clear HR132_0
                                          clear HX132_0
                                          clear HR134_0
                                          clear HX134_0
                                          clear BK138
                                          clear HB
                                          have HO_3 := n0_
                                          have HL132_0 := n1_
                                          have HL134_0 := n2_
                                          have HR132_0 := n3_
                                          have HX132_0 := n4_
                                          have HR134_0 := n5_
                                          have HX134_0 := n6_
                                          have BK138 := n7_
                                          have HB := n8_
                                          clear n0_ n1_ n2_ n3_ n4_ n5_ n6_ n7_ n8_
                                          (try clear hb)
                                          (try clear hb2)
                                          (try clear hk)
                                          (try clear hi)
                                          refine hK.out _ _ ⟨HS0_, HS1_, HS2_, HS3_, HS4_, HS5_⟩ (fun hHeld => ?_)
                                          clear hK K
                                          refine norm_ (a' := ?_) ?_ ?_
                                          rotate_left
                                          · show Act.put _ (some 39) _ = _
                                            simp only [Act.put, List.setIfInBounds_toArray, List.set_cons_zero, List.set_cons_succ, i64_w, i32_w]
                                            rfl
                                          exact norm_ (by simp only [putAll, Act.put, List.setIfInBounds_toArray, List.set_cons_zero, List.set_cons_succ]) (hCont (gb138) _ ⟨hHeld, (by (with_reducible repeat (first | apply Kd.R_alloc | apply Kd.R_drewN | apply Kd.R_drew)); exact Kd.R_mono HL132_0.out (fun _ hk => ⟨hk.1.2, hk.2⟩)), (by (with_reducible repeat (first | apply Kd.R_alloc | apply Kd.R_drewN | apply Kd.R_drew)); exact Kd.R_mono HL134_0.out (fun _ hk => ⟨hk.1.2, hk.2⟩)), (by (with_reducible repeat (first | apply Kd.S_alloc | apply Kd.S_drewN | apply Kd.S_drew)); exact Kd.S_mono HO_3.out (fun _ hk => hk.2)), HX132_0.out, HX134_0.out, (by (with_reducible repeat (first | refine blk_drewN ?_ _ | refine blk_drew ?_ | refine blk_alloc ?_ _)); exact BK138.out), GW138.out, GE138.out, (by repeat (first | (with_reducible first | exact HB.out | apply below_alloc | apply pw_below_drewN | apply below_drew1 | refine below_set ?_ GE138.out) | exact HB.out))⟩)
                                      rintro gb138 w35 ⟨hS_, h0_, h1_, h2_, h3_, h4_, h5_, h6_, h7_, h8_⟩
                                      have n0_ : Aside0 (Kd.R k50 50 w35 w.heap.size (fun k_ => some k_ ≠ (.slice (some ad132) x3_3.length co4 : Value).ownBlock ∧ k_ ≠ gb138) (.slice (some ad133) (rd_L3 x3_3 x17_2).length c132_0) (rd_L3 x3_3 x17_2)) := ⟨h0_⟩
                                      have n1_ : Aside0 (Kd.R k50 50 w35 w.heap.size (fun k_ => some k_ ≠ (.slice (some ad132) x3_3.length co4 : Value).ownBlock ∧ k_ ≠ gb138) (.slice (some ad135) (rd_L3 x3_3 x12_1).length c134_0) (rd_L3 x3_3 x12_1)) := ⟨h1_⟩
                                      have n2_ : Aside0 (Kd.S (Kd.slice 50 k50) 48 w35 w.heap.size (fun k_ => k_ ≠ gb138) (.slice (some ad132) x3_3.length co4) x3_3) := ⟨h2_⟩
                                      have n3_ : Aside0 (w35.cell? (ad132.add (x17_2).toNat) = some (.slice (some ad133) (rd_L3 x3_3 x17_2).length c132_0)) := ⟨h3_⟩
                                      have n4_ : Aside0 (w35.cell? (ad132.add (x12_1).toNat) = some (.slice (some ad135) (rd_L3 x3_3 x12_1).length c134_0)) := ⟨h4_⟩
                                      have n5_ : Aside0 (w35.heap[gb138]? = some (.cells #[.int .i64 0, .int .i64 0] 50 (0, 0))) := ⟨h5_⟩
                                      have n6_ : Aside0 (w.heap.size ≤ gb138) := ⟨h6_⟩
                                      have n7_ : Aside0 (w.heap.size ≤ gb138) := ⟨h7_⟩
                                      have n8_ : Aside0 (Below w.heap.size w w35) := ⟨h8_⟩
                                      clear HO_3
                                      clear HB
                                      clear h0_ h1_ h2_ h3_ h4_ h5_ h6_ h7_ h8_
                                      have HL132_0 := n0_
                                      have HL134_0 := n1_
                                      have HO_3 := n2_
                                      have HX132_0 := n3_
                                      have HX134_0 := n4_
                                      have BK138 := n5_
                                      have GW138 := n6_
                                      have GE138 := n7_
                                      have HB := n8_
                                      clear n0_ n1_ n2_ n3_ n4_ n5_ n6_ n7_ n8_
                                      have hHeld : w35.cell? (ad132.add (x17_2).toNat) = some (.slice (some ad133) (rd_L3 x3_3 x17_2).length c132_0) ∧ w35.cell? (ad133.add ((x12_1).toNat * 2)) = some (.int .i64 ((rd_T50 (rd_L3 x3_3 x17_2) x12_1).f0)) ∧ w35.cell? ⟨(ad133.add ((x12_1).toNat * 2)).block, (ad133.add ((x12_1).toNat * 2)).off + 1, none⟩ = some (.int .i64 ((rd_T50 (rd_L3 x3_3 x17_2) x12_1).f1)) ∧ w35.cell? (ad132.add (x12_1).toNat) = some (.slice (some ad135) (rd_L3 x3_3 x12_1).length c134_0) ∧ w35.cell? (ad135.add ((x22_3).toNat * 2)) = some (.int .i64 ((rd_T50 (rd_L3 x3_3 x12_1) x22_3).f0)) ∧ w35.cell? ⟨(ad135.add ((x22_3).toNat * 2)).block, (ad135.add ((x22_3).toNat * 2)).off + 1, none⟩ = some (.int .i64 ((rd_T50 (rd_L3 x3_3 x12_1) x22_3).f1)) := hS_
                                      refine norm_ (a' := ?_) ?_ ?_
                                      rotate_left
                                      · simp only [putAll, Act.put, List.setIfInBounds_toArray, List.set_cons_zero, List.set_cons_succ]
                                        rfl
                                      refine one_ (i := 16) (N := none) #[true, true, true, true, true, true, true, true, true, true, true, true, true, true, true, true, true] rfl rfl (one_of HT_.out (by kernel_rfl)) (by decide) (fun K hK => ?_)
                                      have hs36 : w35.cell? ⟨gb138, 0, none⟩ = some (.int .i64 0) := (blk_cell BK138.out 0).trans rfl
                                      have hfs36 := blk_frozen BK138.out 0
                                      have hs37 : w35.cell? ⟨gb138, 1, none⟩ = some (.int .i64 0) := (blk_cell BK138.out 1).trans rfl
                                      have hfs37 := blk_frozen BK138.out 1
                                      refine skip_ (w1 := ?_) (by rfl) rfl ?_ ?_
                                      rotate_left
                                      · go_simp
                                        rfl
                                      refine hK.out _ _ ⟨((cell_far (p := ⟨gb138, _, none⟩) (by first | exact Kd.own_blk (Kd.S_away HO_3.out (fun _ hk => hk)) | (rw [add_block]; exact Kd.own_blk (Kd.S_away HO_3.out (fun _ hk => hk))) | (show (Addr.add _ _).block ≠ _; rw [add_block]; exact Kd.own_blk (Kd.S_away HO_3.out (fun _ hk => hk))) | (dsimp only; exact Kd.own_blk (Kd.S_away HO_3.out (fun _ hk => hk)))) _).trans (((cell_far (p := ⟨gb138, _, none⟩) (by first | exact Kd.own_blk (Kd.S_away HO_3.out (fun _ hk => hk)) | (rw [add_block]; exact Kd.own_blk (Kd.S_away HO_3.out (fun _ hk => hk))) | (show (Addr.add _ _).block ≠ _; rw [add_block]; exact Kd.own_blk (Kd.S_away HO_3.out (fun _ hk => hk))) | (dsimp only; exact Kd.own_blk (Kd.S_away HO_3.out (fun _ hk => hk)))) _).trans (hHeld.1)))), ((cell_far (p := ⟨gb138, _, none⟩) (by first | exact Kd.own_blk (Kd.R_away HL132_0.out (fun _ hk => hk.2)) | (rw [add_block]; exact Kd.own_blk (Kd.R_away HL132_0.out (fun _ hk => hk.2))) | (show (Addr.add _ _).block ≠ _; rw [add_block]; exact Kd.own_blk (Kd.R_away HL132_0.out (fun _ hk => hk.2))) | (dsimp only; exact Kd.own_blk (Kd.R_away HL132_0.out (fun _ hk => hk.2)))) _).trans (((cell_far (p := ⟨gb138, _, none⟩) (by first | exact Kd.own_blk (Kd.R_away HL132_0.out (fun _ hk => hk.2)) | (rw [add_block]; exact Kd.own_blk (Kd.R_away HL132_0.out (fun _ hk => hk.2))) | (show (Addr.add _ _).block ≠ _; rw [add_block]; exact Kd.own_blk (Kd.R_away HL132_0.out (fun _ hk => hk.2))) | (dsimp only; exact Kd.own_blk (Kd.R_away HL132_0.out (fun _ hk => hk.2)))) _).trans (hHeld.2.1)))), ((cell_far (p := ⟨gb138, _, none⟩) (by first | exact Kd.own_blk (Kd.R_away HL132_0.out (fun _ hk => hk.2)) | (rw [add_block]; exact Kd.own_blk (Kd.R_away HL132_0.out (fun _ hk => hk.2))) | (show (Addr.add _ _).block ≠ _; rw [add_block]; exact Kd.own_blk (Kd.R_away HL132_0.out (fun _ hk => hk.2))) | (dsimp only; exact Kd.own_blk (Kd.R_away HL132_0.out (fun _ hk => hk.2)))) _).trans (((cell_far (p := ⟨gb138, _, none⟩) (by first | exact Kd.own_blk (Kd.R_away HL132_0.out (fun _ hk => hk.2)) | (rw [add_block]; exact Kd.own_blk (Kd.R_away HL132_0.out (fun _ hk => hk.2))) | (show (Addr.add _ _).block ≠ _; rw [add_block]; exact Kd.own_blk (Kd.R_away HL132_0.out (fun _ hk => hk.2))) | (dsimp only; exact Kd.own_blk (Kd.R_away HL132_0.out (fun _ hk => hk.2)))) _).trans (hHeld.2.2.1)))), ((cell_far (p := ⟨gb138, _, none⟩) (by first | exact Kd.own_blk (Kd.S_away HO_3.out (fun _ hk => hk)) | (rw [add_block]; exact Kd.own_blk (Kd.S_away HO_3.out (fun _ hk => hk))) | (show (Addr.add _ _).block ≠ _; rw [add_block]; exact Kd.own_blk (Kd.S_away HO_3.out (fun _ hk => hk))) | (dsimp only; exact Kd.own_blk (Kd.S_away HO_3.out (fun _ hk => hk)))) _).trans (((cell_far (p := ⟨gb138, _, none⟩) (by first | exact Kd.own_blk (Kd.S_away HO_3.out (fun _ hk => hk)) | (rw [add_block]; exact Kd.own_blk (Kd.S_away HO_3.out (fun _ hk => hk))) | (show (Addr.add _ _).block ≠ _; rw [add_block]; exact Kd.own_blk (Kd.S_away HO_3.out (fun _ hk => hk))) | (dsimp only; exact Kd.own_blk (Kd.S_away HO_3.out (fun _ hk => hk)))) _).trans (hHeld.2.2.2.1)))), ((cell_far (p := ⟨gb138, _, none⟩) (by first | exact Kd.own_blk (Kd.R_away HL134_0.out (fun _ hk => hk.2)) | (rw [add_block]; exact Kd.own_blk (Kd.R_away HL134_0.out (fun _ hk => hk.2))) | (show (Addr.add _ _).block ≠ _; rw [add_block]; exact Kd.own_blk (Kd.R_away HL134_0.out (fun _ hk => hk.2))) | (dsimp only; exact Kd.own_blk (Kd.R_away HL134_0.out (fun _ hk => hk.2)))) _).trans (((cell_far (p := ⟨gb138, _, none⟩) (by first | exact Kd.own_blk (Kd.R_away HL134_0.out (fun _ hk => hk.2)) | (rw [add_block]; exact Kd.own_blk (Kd.R_away HL134_0.out (fun _ hk => hk.2))) | (show (Addr.add _ _).block ≠ _; rw [add_block]; exact Kd.own_blk (Kd.R_away HL134_0.out (fun _ hk => hk.2))) | (dsimp only; exact Kd.own_blk (Kd.R_away HL134_0.out (fun _ hk => hk.2)))) _).trans (hHeld.2.2.2.2.1)))), ((cell_far (p := ⟨gb138, _, none⟩) (by first | exact Kd.own_blk (Kd.R_away HL134_0.out (fun _ hk => hk.2)) | (rw [add_block]; exact Kd.own_blk (Kd.R_away HL134_0.out (fun _ hk => hk.2))) | (show (Addr.add _ _).block ≠ _; rw [add_block]; exact Kd.own_blk (Kd.R_away HL134_0.out (fun _ hk => hk.2))) | (dsimp only; exact Kd.own_blk (Kd.R_away HL134_0.out (fun _ hk => hk.2)))) _).trans (((cell_far (p := ⟨gb138, _, none⟩) (by first | exact Kd.own_blk (Kd.R_away HL134_0.out (fun _ hk => hk.2)) | (rw [add_block]; exact Kd.own_blk (Kd.R_away HL134_0.out (fun _ hk => hk.2))) | (show (Addr.add _ _).block ≠ _; rw [add_block]; exact Kd.own_blk (Kd.R_away HL134_0.out (fun _ hk => hk.2))) | (dsimp only; exact Kd.own_blk (Kd.R_away HL134_0.out (fun _ hk => hk.2)))) _).trans (hHeld.2.2.2.2.2))))⟩ (fun hHeld => ?_)
                                      clear hK K
                                      refine done_ (done_of HT_.out (by kernel_rfl)) ?_
                                      try go_wp2
                                      have n0_ : Aside0 (Kd.S (Kd.slice 50 k50) 48 ((w35.setCell ⟨gb138, 0, none⟩ (.int .i64 t136)).setCell ⟨gb138, 1, none⟩ (.int .i64 t137)) w.heap.size (fun k_ => k_ ≠ gb138) (.slice (some ad132) x3_3.length co4) x3_3) := ⟨by (with_reducible repeat (first | apply Kd.S_alloc | apply Kd.S_drewN | apply Kd.S_drew)); exact Kd.S_mono (Kd.S_far (p := ⟨gb138, 1, none⟩) (Kd.S_far (p := ⟨gb138, 0, none⟩) (Kd.S_mono HO_3.out (fun k_ hk => (⟨hk, hk⟩ : _ ∧ k_ ≠ gb138))) (fun _ hk => hk.2) (.int .i64 t136)) (fun _ hk => hk.2) (.int .i64 t137)) (fun _ hk => hk.1)⟩
                                      have n1_ : Aside0 (Kd.R k50 50 ((w35.setCell ⟨gb138, 0, none⟩ (.int .i64 t136)).setCell ⟨gb138, 1, none⟩ (.int .i64 t137)) w.heap.size (fun k_ => some k_ ≠ (.slice (some ad132) x3_3.length co4 : Value).ownBlock ∧ k_ ≠ gb138) (.slice (some ad133) (rd_L3 x3_3 x17_2).length c132_0) (rd_L3 x3_3 x17_2)) := ⟨by (with_reducible repeat (first | apply Kd.R_alloc | apply Kd.R_drewN | apply Kd.R_drew)); exact Kd.R_mono (Kd.R_far (p := ⟨gb138, 1, none⟩) (Kd.R_far (p := ⟨gb138, 0, none⟩) (Kd.R_mono HL132_0.out (fun k_ hk => (⟨hk, hk.2⟩ : _ ∧ k_ ≠ gb138))) (fun _ hk => hk.2) (.int .i64 t136)) (fun _ hk => hk.2) (.int .i64 t137)) (fun _ hk => ⟨hk.1.1, hk.1.2⟩)⟩
                                      have n2_ : Aside0 (Kd.R k50 50 ((w35.setCell ⟨gb138, 0, none⟩ (.int .i64 t136)).setCell ⟨gb138, 1, none⟩ (.int .i64 t137)) w.heap.size (fun k_ => some k_ ≠ (.slice (some ad132) x3_3.length co4 : Value).ownBlock ∧ k_ ≠ gb138) (.slice (some ad135) (rd_L3 x3_3 x12_1).length c134_0) (rd_L3 x3_3 x12_1)) := ⟨by (with_reducible repeat (first | apply Kd.R_alloc | apply Kd.R_drewN | apply Kd.R_drew)); exact Kd.R_mono (Kd.R_far (p := ⟨gb138, 1, none⟩) (Kd.R_far (p := ⟨gb138, 0, none⟩) (Kd.R_mono HL134_0.out (fun k_ hk => (⟨hk, hk.2⟩ : _ ∧ k_ ≠ gb138))) (fun _ hk => hk.2) (.int .i64 t136)) (fun _ hk => hk.2) (.int .i64 t137)) (fun _ hk => ⟨hk.1.1, hk.1.2⟩)⟩
                                      have n3_ : Aside0 (((w35.setCell ⟨gb138, 0, none⟩ (.int .i64 t136)).setCell ⟨gb138, 1, none⟩ (.int .i64 t137)).heap[gb138]? = some (.cells #[.int .i64 t136, .int .i64 t137] 50 (0, 0))) := ⟨by (with_reducible repeat (first | refine blk_drewN ?_ _ | refine blk_drew ?_ | refine blk_alloc ?_ _)); refine blk_put (cs := #[.int .i64 t136, .int .i64 0]) ?_ 1 _ rfl; (with_reducible repeat (first | refine blk_drewN ?_ _ | refine blk_drew ?_ | refine blk_alloc ?_ _)); refine blk_put (cs := #[.int .i64 0, .int .i64 0]) ?_ 0 _ rfl; (with_reducible repeat (first | refine blk_drewN ?_ _ | refine blk_drew ?_ | refine blk_alloc ?_ _)); exact BK138.out⟩
                                      have n4_ : Aside0 (Below w.heap.size w ((w35.setCell ⟨gb138, 0, none⟩ (.int .i64 t136)).setCell ⟨gb138, 1, none⟩ (.int .i64 t137))) := ⟨by repeat (first | (with_reducible first | exact HB.out | apply below_alloc | apply pw_below_drewN | apply below_drew1 | refine below_set ?_ GE138.out) | exact HB.out)⟩
                                      (try clear HO_3)
                                      (try clear HL132_0)
                                      (try clear HL134_0)
                                      (try clear BK138)
                                      (try clear HB)
                                      generalize ((w35.setCell ⟨gb138, 0, none⟩ (.int .i64 t136)).setCell ⟨gb138, 1, none⟩ (.int .i64 t137)) = w38 at n0_ n1_ n2_ n3_ n4_ ⊢
                                      have HO_3 := n0_
                                      have HL132_0 := n1_
                                      have HL134_0 := n2_
                                      have BK138 := n3_
                                      have HB := n4_
                                      clear n0_ n1_ n2_ n3_ n4_
                                      have n0_ := Aside0.mk (Kd.S_drew HO_3.out)
                                      have n1_ := Aside0.mk (Kd.R_drew HL132_0.out)
                                      have n2_ := Aside0.mk (Kd.R_drew HL134_0.out)
                                      have n3_ := Aside0.mk (blk_drew BK138.out)
                                      have n4_ := Aside0.mk (below_drew1 HB.out)
                                      clear HO_3
                                      clear HL132_0
                                      clear HL134_0
                                      clear BK138
                                      clear HB
                                      have HO_3 := n0_
                                      have HL132_0 := n1_
                                      have HL134_0 := n2_
                                      have BK138 := n3_
                                      have HB := n4_
                                      clear n0_ n1_ n2_ n3_ n4_
                                      have p139 : 0 ≤ (x17_2 : Int) := of_decide_eq_true (by first | (with_reducible assumption) | assumption)
                                      have q139 : x17_2 < (x3_3.length : Int) := of_decide_eq_true (by first | (with_reducible assumption) | assumption)
                                      obtain ⟨ad139, A139_0, c139_0, e139, hx139_0, hl139_0, hi139_0⟩ := at_L3 (Kd.S_reads' HO_3.out).2.2 x17_2 p139 q139
                                      obtain rfl : ad132 = ad139 := (by injection e139)
                                      obtain ⟨ce139, hce139, hMe139, hcc139⟩ := Kd.S_get HO_3.out [] x17_2 p139 (by first | exact q139 | exact of_decide_eq_true (by first | (with_reducible assumption) | assumption) | (have e_ := (Kd.S_reads' HO_3.out).1; omega))
                                      obtain ⟨ve139_0, rfl, ge139_0⟩ := hMe139
                                      have hv139_0 := hcc139 0 _ rfl
                                      rw [Nat.add_zero, show ((Kd.slice 50 k50)).sz = 1 from rfl, Nat.mul_one] at hv139_0
                                      replace hv139_0 := Option.some.inj (hv139_0.symm.trans hx139_0)
                                      rw [hv139_0] at ge139_0
                                      have HL139_0 := Aside0.mk (show Kd.R k50 50 _ _ _ _ (rd_L3 x3_3 x17_2) from ge139_0)
                                      clear hv139_0 ge139_0
                                      have HX139_0 := Aside0.mk hx139_0
                                      clear hcc139 hce139
                                      have HR139_0 := Aside0.mk hi139_0
                                      have HC139_0 := Aside0.mk hl139_0
                                      clear hi139_0 hl139_0
                                      replace p139 := eq_true p139
                                      replace q139 := eq_true q139
                                      have p140 : 0 ≤ (x22_3 : Int) := of_decide_eq_true (by first | (with_reducible assumption) | assumption)
                                      have q140 : x22_3 < ((rd_L3 x3_3 x17_2).length : Int) := of_decide_eq_true (by first | (with_reducible assumption) | assumption)
                                      obtain ⟨ad140, e140, hx140_0, hx140_1⟩ := at_T50 (by repeat (first | (with_reducible exact HR139_0.out) | (with_reducible refine Kd.C_alloc ?_ _) | (with_reducible refine Kd.C_drewN ?_ _) | (with_reducible refine Kd.C_drew ?_) | exact HR139_0.out)) x22_3 p140 q140
                                      cases e140
                                      replace p140 := eq_true p140
                                      replace q140 := eq_true q140
                                      refine start_ (n := 9) (S := fun w' => w'.cell? ⟨gb138, 0, none⟩ = some (.int .i64 t136) ∧ w'.cell? ⟨gb138, 1, none⟩ = some (.int .i64 t137) ∧ w'.cell? (ad132.add (x17_2).toNat) = some (.slice (some ad140) (rd_L3 x3_3 x17_2).length c139_0) ∧ w'.cell? (ad140.add ((x22_3).toNat * 2)) = some (.int .i64 ((rd_T50 (rd_L3 x3_3 x17_2) x22_3).f0)) ∧ w'.cell? ⟨(ad140.add ((x22_3).toNat * 2)).block, (ad140.add ((x22_3).toNat * 2)).off + 1, none⟩ = some (.int .i64 ((rd_T50 (rd_L3 x3_3 x17_2) x22_3).f1))) (ds := []) #[false, false, false, false, false, false, false, false, false] (by kernel_rfl) rfl rfl ⟨(blk_cell BK138.out 0).trans rfl, (blk_cell BK138.out 1).trans rfl, hx139_0, hx140_0, hx140_1⟩ (fun hHeld => ?_); refine with_tabW chart_closed.tab12 chart_closed.bits12 (fun HT_ HW_ => ?_)
                                      generalize w38.drew = w39 at HO_3 HL132_0 HL134_0 BK138 HB HL139_0 HR139_0 HX139_0 hx139_0 hx140_0 hx140_1 hHeld ⊢
                                      refine pure_ (i := 1) (N := some 41) (v := ?_) (a' := ?_) #[false, true, false, false, false, false, false, false, false] rfl rfl (any_of HT_.out (by kernel_rfl)) (fun _ _ _ h => h) (Or.inl ⟨by rfl, ?_⟩) ?_ ?_
                                      rotate_left
                                      · intro w'
                                        go_simp
                                        with_reducible rfl
                                      rotate_left
                                      · simp only [Act.put, List.setIfInBounds_toArray, List.set_cons_zero, List.set_cons_succ, i64_w, i32_w]
                                        rfl
                                      refine pure_ (i := 2) (N := some 42) (v := ?_) (a' := ?_) #[false, true, true, false, false, false, false, false, false] rfl rfl (any_of HT_.out (by kernel_rfl)) (fun _ _ _ h => h) (Or.inl ⟨by rfl, ?_⟩) ?_ ?_
                                      rotate_left
                                      · intro w'
                                        go_simp
                                        with_reducible rfl
                                      rotate_left
                                      · simp only [Act.put, List.setIfInBounds_toArray, List.set_cons_zero, List.set_cons_succ, i64_w, i32_w]
                                        rfl
                                      refine pure_ (i := 3) (N := some 43) (v := ?_) (a' := ?_) #[false, true, true, true, false, false, false, false, false] rfl rfl (any_of HT_.out (by kernel_rfl)) (fun _ _ _ h => h) (Or.inl ⟨by rfl, ?_⟩) ?_ ?_
                                      rotate_left
                                      · intro w'
                                        go_simp
                                        with_reducible rfl
                                      rotate_left
                                      · simp only [Act.put, List.setIfInBounds_toArray, List.set_cons_zero, List.set_cons_succ, i64_w, i32_w]
                                        rfl
                                      refine pure_ (i := 5) (N := some 45) (v := ?_) (a' := ?_) #[false, true, true, true, false, true, false, false, false] rfl rfl (any_of HT_.out (by kernel_rfl)) (fun _ _ _ h => h) (Or.inl ⟨by rfl, ?_⟩) ?_ ?_
                                      rotate_left
                                      · intro w'
                                        go_simp
                                        with_reducible rfl
                                      rotate_left
                                      · simp only [Act.put, List.setIfInBounds_toArray, List.set_cons_zero, List.set_cons_succ, i64_w, i32_w]
                                        rfl
                                      refine take_ (i := 0) (N := some 40) (v := ?_) (a' := ?_) #[true, true, true, true, false, true, false, false, false] rfl rfl (take_ofW HT_.out HW_.out (by kernel_rfl)) (fun _ _ _ h => h) (Or.inl ⟨by rfl, ?_⟩) hHeld ?_ ?_
                                      rotate_left
                                      · rintro w' ⟨s0, s1, s2, s3, s4⟩
                                        go_simp
                                        with_reducible rfl
                                      rotate_left
                                      · simp only [Act.put, List.setIfInBounds_toArray, List.set_cons_zero, List.set_cons_succ, i64_w, i32_w]
                                        rfl
                                      refine take_ (i := 4) (N := some 44) (v := ?_) (a' := ?_) #[true, true, true, true, true, true, false, false, false] rfl rfl (take_ofW HT_.out HW_.out (by kernel_rfl)) (fun _ _ _ h => h) (Or.inl ⟨by rfl, ?_⟩) hHeld ?_ ?_
                                      rotate_left
                                      · rintro w' ⟨s0, s1, s2, s3, s4⟩
                                        go_simp
                                        with_reducible rfl
                                      rotate_left
                                      · simp only [Act.put, List.setIfInBounds_toArray, List.set_cons_zero, List.set_cons_succ, i64_w, i32_w]
                                        rfl
                                      refine pure_ (i := 6) (N := some 46) (v := ?_) (a' := ?_) #[true, true, true, true, true, true, true, false, false] rfl rfl (any_of HT_.out (by kernel_rfl)) (fun _ _ _ h => h) (Or.inl ⟨by rfl, ?_⟩) ?_ ?_
                                      rotate_left
                                      · intro w'
                                        go_simp
                                        with_reducible rfl
                                      rotate_left
                                      · simp only [Act.put, List.setIfInBounds_toArray, List.set_cons_zero, List.set_cons_succ, i64_w, i32_w]
                                        rfl
                                      refine take_ (i := 7) (N := some 47) (v := ?_) (a' := ?_) #[true, true, true, true, true, true, true, true, false] rfl rfl (take_ofW HT_.out HW_.out (by kernel_rfl)) (fun _ _ _ h => h) (Or.inl ⟨by rfl, ?_⟩) hHeld ?_ ?_
                                      rotate_left
                                      · rintro w' ⟨s0, s1, s2, s3, s4⟩
                                        go_simp
                                        with_reducible rfl
                                      rotate_left
                                      · simp only [Act.put, List.setIfInBounds_toArray, List.set_cons_zero, List.set_cons_succ, i64_w, i32_w]
                                        rfl
                                      refine one_ (i := 8) (N := some 48) #[true, true, true, true, true, true, true, true, true] rfl rfl (one_of HT_.out (by kernel_rfl)) (by decide) (fun K hK => ?_)
                                      refine goes_ Try.func32 (by kernel_rfl) rfl #[.agg #[.int .i64 t136, .int .i64 t137], .agg #[.int .i64 ((rd_T50 (rd_L3 x3_3 x17_2) x22_3).f0), .int .i64 ((rd_T50 (rd_L3 x3_3 x17_2) x22_3).f1)]] (by rfl) rfl rfl (by (try simp only [List.map_toArray, List.map_cons, List.map_nil]); first | done | rfl | (simp only [List.length_drop, List.length_take]; rfl)) ?_
                                      with_reducible refine (chart_leg_before.calls t136 t137 ((rd_T50 (rd_L3 x3_3 x17_2) x22_3).f0) ((rd_T50 (rd_L3 x3_3 x17_2) x22_3).f1) false _ A17.out).mono ?_
                                      rintro e w40 ⟨rfl, hb⟩
                                      have HS2_ := (hb.cell (World.block_lt_of_cell? _ _ (hHeld.2.2.1))).trans (hHeld.2.2.1)
                                      have HS3_ := (hb.cell (World.block_lt_of_cell? _ _ (hHeld.2.2.2.1))).trans (hHeld.2.2.2.1)
                                      have HS4_ := (hb.cell (World.block_lt_of_cell? _ _ (hHeld.2.2.2.2))).trans (hHeld.2.2.2.2)
                                      refine ⟨_, rfl, ?_⟩
                                      have n0_ := Aside0.mk (Kd.S_below (by (with_reducible repeat (first | apply Kd.S_alloc | apply Kd.S_drewN | apply Kd.S_drew)); exact HO_3.out) hb)
                                      have n1_ := Aside0.mk (Kd.R_below (by (with_reducible repeat (first | apply Kd.R_alloc | apply Kd.R_drewN | apply Kd.R_drew)); exact HL132_0.out) hb)
                                      have n2_ := Aside0.mk (Kd.R_below (by (with_reducible repeat (first | apply Kd.R_alloc | apply Kd.R_drewN | apply Kd.R_drew)); exact HL134_0.out) hb)
                                      have n3_ := Aside0.mk (Kd.R_below (by (with_reducible repeat (first | apply Kd.R_alloc | apply Kd.R_drewN | apply Kd.R_drew)); exact HL139_0.out) hb)
                                      have n4_ := Aside0.mk (blk_below (g := gb138) (o := .cells #[.int .i64 t136, .int .i64 t137] 50 (0, 0)) (by (with_reducible repeat (first | refine blk_drewN ?_ _ | refine blk_drew ?_ | refine blk_alloc ?_ _)); exact BK138.out) hb)
                                      have n5_ := Aside0.mk (Kd.C_below (by repeat (first | (with_reducible exact HR139_0.out) | (with_reducible refine Kd.C_alloc ?_ _) | (with_reducible refine Kd.C_drewN ?_ _) | (with_reducible refine Kd.C_drew ?_) | exact HR139_0.out)) hb)
                                      have n6_ := Aside0.mk (pw_cell_below hb HX139_0.out)
                                      have n7_ := Aside0.mk (below_step (by repeat (first | (with_reducible first | exact HB.out | apply below_alloc | apply pw_below_drewN | apply below_drew1 | refine below_set ?_ GE138.out) | exact HB.out)) hb)
                                      clear HO_3
                                      clear HL132_0
                                      clear HL134_0
                                      clear HL139_0
                                      clear BK138
                                      clear HR139_0
                                      clear HX139_0
                                      clear HB
                                      have HO_3 := n0_
                                      have HL132_0 := n1_
                                      have HL134_0 := n2_
                                      have HL139_0 := n3_
                                      have BK138 := n4_
                                      have HR139_0 := n5_
                                      have HX139_0 := n6_
                                      have HB := n7_
                                      clear n0_ n1_ n2_ n3_ n4_ n5_ n6_ n7_
                                      (try clear hb)
                                      (try clear hb2)
                                      (try clear hk)
                                      (try clear hi)
                                      refine hK.out _ _ ⟨(blk_cell BK138.out 0).trans rfl, (blk_cell BK138.out 1).trans rfl, HS2_, HS3_, HS4_⟩ (fun hHeld => ?_)
                                      clear hK K
                                      refine norm_ (a' := ?_) ?_ ?_
                                      rotate_left
                                      · show Act.put _ (some 48) _ = _
                                        simp only [Act.put, List.setIfInBounds_toArray, List.set_cons_zero, List.set_cons_succ, i64_w, i32_w]
                                        rfl
                                      refine done_ (done_of HT_.out (by kernel_rfl)) ?_
                                      try go_wp2
                                      (try simp only [← hl3_3])
                                      go_roundg k3
                                      case measure => have := HK1.out; have := HK2.out; have := HK3.out; omega
                                      case rel => exact ⟨(x3_3), (wrap64 (x22_3 + 1)), (by first | rfl | (simp; done) | (simp [*]; done)), H', ⟨by have := HK1.out; have := HK2.out; have := HK3.out; omega⟩, ⟨by (try simp only [hl3_1]); (try simp only [hl3_2]); (try simp only [hl3_3]); (with_reducible repeat (first | apply Kd.S_alloc | apply Kd.S_drewN | apply Kd.S_drew)); exact Kd.S_mono HO_3.out (fun _ hk => trivial)⟩, ⟨by repeat (first | (with_reducible first | exact HB.out | apply below_alloc | apply pw_below_drewN | apply below_drew1 | refine below_set ?_ GE138.out) | exact HB.out)⟩⟩
                                  · rw [if_neg c16] at H
                                    exact absurd H (by simp)
                                · rw [if_neg c14] at H
                                  exact absurd H (by simp)
                              · rw [if_neg c13] at H
                                exact absurd H (by simp)
                            · rw [if_neg c12] at H
                              exact absurd H (by simp)
                          · rw [if_neg c11] at H
                            exact absurd H (by simp)
                        · rw [if_neg c10] at H
                          exact absurd H (by simp)
                      · rw [if_neg c9] at H
                        exact absurd H (by simp)
                    · rw [if_neg c8] at H
                      exact absurd H (by simp)
                  · rw [if_neg c7] at H
                    have c7b0 : decide (x22_3 < (x3_2.length : Int)) = false := decide_eq_false c7
                    (try (have c7b0z3_1 := c7b0; rw [hl3_1] at c7b0z3_1))
                    (try (have c7b0z3_2 := c7b0; rw [hl3_2] at c7b0z3_2))
                    (try (have c7b0z3_3 := c7b0; rw [hl3_3] at c7b0z3_3))
                    clear c7
                    have H' := Aside0.mk H
                    clear H
                    go_wp2
                    (try simp only [← hl3_2, ← hl3_3])
                    go_roundg k3
                    case measure => have := HK1.out; have := HK2.out; have := HK3.out; omega
                    case rel => exact ⟨(x3_3), (wrap64 (x17_2 + 1)), (by first | rfl | (simp; done) | (simp [*]; done)), H', ⟨by have := HK1.out; have := HK2.out; have := HK3.out; omega⟩, ⟨by (try simp only [hl3_1]); (try simp only [hl3_2]); (try simp only [hl3_3]); (with_reducible repeat (first | apply Kd.S_alloc | apply Kd.S_drewN | apply Kd.S_drew)); exact HO_3.out⟩, ⟨by repeat (first | (with_reducible first | exact HB.out | apply below_alloc | apply pw_below_drewN | apply below_drew1) | exact HB.out)⟩⟩
            · rw [if_neg c6] at H
              have c6b0 : decide (x17_2 < (x3_1.length : Int)) = false := decide_eq_false c6
              (try (have c6b0z3_1 := c6b0; rw [hl3_1] at c6b0z3_1))
              (try (have c6b0z3_2 := c6b0; rw [hl3_2] at c6b0z3_2))
              (try (have c6b0z3_3 := c6b0; rw [hl3_3] at c6b0z3_3))
              clear c6
              have H' := Aside0.mk H
              clear H
              go_wp2
              (try simp only [← hl3_1, ← hl3_2])
              go_roundg k2
              case measure => have := HK1.out; have := HK2.out; omega
              case rel => exact ⟨(x3_2), (wrap64 (x12_1 + 1)), (by first | rfl | (simp; done) | (simp [*]; done)), H', ⟨by have := HK1.out; have := HK2.out; omega⟩, ⟨by (try simp only [hl3_1]); (try simp only [hl3_2]); (with_reducible repeat (first | apply Kd.S_alloc | apply Kd.S_drewN | apply Kd.S_drew)); exact HO_3.out⟩, ⟨by repeat (first | (with_reducible first | exact HB.out | apply below_alloc | apply pw_below_drewN | apply below_drew1) | exact HB.out)⟩⟩
      · rw [if_neg c5] at H
        have c5b0 : decide (x12_1 < (t129.length : Int)) = false := decide_eq_false c5
        (try (have c5b0z3_1 := c5b0; rw [hl3_1] at c5b0z3_1))
        (try (have c5b0z3_2 := c5b0; rw [hl3_2] at c5b0z3_2))
        (try (have c5b0z3_3 := c5b0; rw [hl3_3] at c5b0z3_3))
        clear c5
        obtain rfl := Option.some.inj H
        go_wp2
        go_ret
        exact ⟨_, by first | rfl | (simp [errW_none, errW_some] <;> rfl) | (simp [*, errW_none, errW_some] <;> rfl), by (with_reducible repeat (first | apply Kd.S_alloc | apply Kd.S_drewN | apply Kd.S_drew)); exact HO_3.out, by repeat (first | (with_reducible first | exact HB.out | apply below_alloc | apply pw_below_drewN | apply below_drew1) | exact HB.out)⟩

end Go.Proofs.Ytecncfnbeocneaa.MChartCloses
