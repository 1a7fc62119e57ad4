/- Written by a program of this session: Go functions that the law ChartChecks reaches, as Lean functions, each with a proof that the Go code comes to just what it says; every input of the kinds that a contract names. -/
import Derived.Test.YtecncfnbeocneaaMChartChecksx0
import Derived.Test.YtecncfnbeocneaaMChartChecksx2
import Derived.Test.YtecncfnbeocneaaMChartChecksx6
import Derived.Test.YtecncfnbeocneaaMChartChecksx7
namespace Go.Proofs.Ytecncfnbeocneaa.MChartChecks
open Go.RowKit Go.Proofs.YtecncfnbeocneaaW.PrintWords Go.Proofs.YtecncfnbeocneaaW.PrintLast Go.Proofs.YtecncfnbeocneaaW.PrintMore
attribute [local go_sem] max2_int min2_int max_two min_two max_three min_three max_four min_four   -- for this text's walks alone
set_option linter.unusedVariables false
set_option linter.unusedSimpArgs false
set_option linter.unnecessarySimpa false

/-! ### haulierlaw27_ChartChecks: function 5 -/
mutual
def haulierlaw27_ChartChecks.j0 : Nat → List (List Int) → Int → Int → Int → Int → Int → Bool → Option (Bool)
  | 0, _, _, _, _, _, _, _ => none
  | k + 1, x0, x1, x2, x12, x13, x14, x57 => if x57 = true then (some false) else (if x12 = 0 then ((haulierref27_Place.f x0 x1).bind fun t227 => (if t227 = true then ((haulierref27_Place.f x0 x2).bind fun t228 => (haulierlaw27_ChartChecks.j1 k x0 x1 x2 x13 x14 (!t228))) else (haulierlaw27_ChartChecks.j1 k x0 x1 x2 x13 x14 true))) else (if x13 = 0 then (if x14 = x12 then ((haulierlaw27_alive.f k).bind fun t233 => (some t233)) else (some false)) else (some false)))
def haulierlaw27_ChartChecks.j1 : Nat → List (List Int) → Int → Int → Int → Int → Bool → Option (Bool)
  | 0, _, _, _, _, _, _ => none
  | k + 1, x0, x1, x2, x13, x14, x71 => if x71 = true then (if x13 = 0 then (if x14 = 10 then ((haulierlaw27_alive.f k).bind fun t229 => (some t229)) else (some false)) else (some false)) else (if 0 ≤ x1 then (if x1 < (x0.length : Int) then (if 0 ≤ x2 then (if x2 < ((rd_L1 x0 x1).length : Int) then (if x13 = (rd (rd_L1 x0 x1) x2) then (if x14 = 0 then ((haulierlaw27_alive.f k).bind fun t232 => (some t232)) else (some false)) else (some false)) else (none)) else (none)) else (none)) else (none))
end
def haulierlaw27_ChartChecks.f (k : Nat) (l0 : List (List Int)) (a1 : Int) (a2 : Int) : Option (Bool) := (haulierlaw27_Light.f k l0 210).bind fun t215 => (if t215 = true then ((chart_Check.f k l0).bind fun bt217 => ((haulierref27_Check.f k l0).bind fun bt220 => ((chart_Way.f k l0 a1 a2).bind fun bt223 => (if bt217.1 = bt220.1 then (if bt217.2.1 = bt220.2.1 then (if bt217.2.2 = bt220.2.2 then ((chart_Metric.f k l0).bind fun t225 => ((haulierref27_Metric.f k l0).bind fun t226 => (haulierlaw27_ChartChecks.j0 k l0 a1 a2 bt220.2.2 bt223.1 bt223.2 (t225 != t226)))) else (haulierlaw27_ChartChecks.j0 k l0 a1 a2 bt220.2.2 bt223.1 bt223.2 true)) else (haulierlaw27_ChartChecks.j0 k l0 a1 a2 bt220.2.2 bt223.1 bt223.2 true)) else (haulierlaw27_ChartChecks.j0 k l0 a1 a2 bt220.2.2 bt223.1 bt223.2 true))))) else ((haulierlaw27_alive.f k).bind fun t216 => (some t216)))
theorem haulierlaw27_ChartChecks.mono_l : ∀ k, (∀ y0 y1 y2 y3 y4 y5 y6, LeO (haulierlaw27_ChartChecks.j0 k y0 y1 y2 y3 y4 y5 y6) (haulierlaw27_ChartChecks.j0 (k + 1) y0 y1 y2 y3 y4 y5 y6)) ∧ (∀ y0 y1 y2 y3 y4 y5, LeO (haulierlaw27_ChartChecks.j1 k y0 y1 y2 y3 y4 y5) (haulierlaw27_ChartChecks.j1 (k + 1) y0 y1 y2 y3 y4 y5))
  | 0 => ⟨fun _ _ _ _ _ _ _ r h => by simp [haulierlaw27_ChartChecks.j0] at h, fun _ _ _ _ _ _ r h => by simp [haulierlaw27_ChartChecks.j1] at h⟩
  | k + 1 => by
    obtain ⟨ih0, ih1⟩ := haulierlaw27_ChartChecks.mono_l k
    refine ⟨?_, ?_⟩
    · intro y0 y1 y2 y3 y4 y5 y6
      unfold haulierlaw27_ChartChecks.j0
      repeat' first
      | (with_reducible exact ih0 _ _ _ _ _ _ _)
      | (with_reducible exact ih1 _ _ _ _ _ _)
      | (with_reducible exact chart_Check.mono _ _)
      | (with_reducible exact chart_Metric.mono _ _)
      | (with_reducible exact chart_Way.mono _ _ _ _)
      | (with_reducible exact haulierlaw27_Light.mono _ _ _)
      | (with_reducible exact haulierlaw27_alive.mono _)
      | (with_reducible exact haulierref27_Check.mono _ _)
      | (with_reducible exact haulierref27_Metric.mono _ _)
      | (with_reducible exact LeO.refl _)
      | (with_reducible exact LeO.none _)
      | (with_reducible refine LeO.ite ?_ ?_)
      | (with_reducible refine LeO.bind ?_ (fun _ => ?_))
      | exact ih0 _ _ _ _ _ _ _
      | exact ih1 _ _ _ _ _ _
      | exact chart_Check.mono _ _
      | exact chart_Metric.mono _ _
      | exact chart_Way.mono _ _ _ _
      | exact haulierlaw27_Light.mono _ _ _
      | exact haulierlaw27_alive.mono _
      | exact haulierref27_Check.mono _ _
      | exact haulierref27_Metric.mono _ _
      | exact LeO.none _
      | refine LeO.ite ?_ ?_
      | refine LeO.bind ?_ (fun _ => ?_)
    · intro y0 y1 y2 y3 y4 y5
      unfold haulierlaw27_ChartChecks.j1
      repeat' first
      | (with_reducible exact ih0 _ _ _ _ _ _ _)
      | (with_reducible exact ih1 _ _ _ _ _ _)
      | (with_reducible exact chart_Check.mono _ _)
      | (with_reducible exact chart_Metric.mono _ _)
      | (with_reducible exact chart_Way.mono _ _ _ _)
      | (with_reducible exact haulierlaw27_Light.mono _ _ _)
      | (with_reducible exact haulierlaw27_alive.mono _)
      | (with_reducible exact haulierref27_Check.mono _ _)
      | (with_reducible exact haulierref27_Metric.mono _ _)
      | (with_reducible exact LeO.refl _)
      | (with_reducible exact LeO.none _)
      | (with_reducible refine LeO.ite ?_ ?_)
      | (with_reducible refine LeO.bind ?_ (fun _ => ?_))
      | exact ih0 _ _ _ _ _ _ _
      | exact ih1 _ _ _ _ _ _
      | exact chart_Check.mono _ _
      | exact chart_Metric.mono _ _
      | exact chart_Way.mono _ _ _ _
      | exact haulierlaw27_Light.mono _ _ _
      | exact haulierlaw27_alive.mono _
      | exact haulierref27_Check.mono _ _
      | exact haulierref27_Metric.mono _ _
      | exact LeO.none _
      | refine LeO.ite ?_ ?_
      | refine LeO.bind ?_ (fun _ => ?_)
theorem haulierlaw27_ChartChecks.mono : ∀ a0 a1 a2 k, LeO (haulierlaw27_ChartChecks.f k a0 a1 a2) (haulierlaw27_ChartChecks.f (k + 1) a0 a1 a2) := by
  intro a0 a1 a2 k
  obtain ⟨ih0, ih1⟩ := haulierlaw27_ChartChecks.mono_l k
  unfold haulierlaw27_ChartChecks.f
  repeat' first
      | (with_reducible exact ih0 _ _ _ _ _ _ _)
      | (with_reducible exact ih1 _ _ _ _ _ _)
      | (with_reducible exact chart_Check.mono _ _)
      | (with_reducible exact chart_Metric.mono _ _)
      | (with_reducible exact chart_Way.mono _ _ _ _)
      | (with_reducible exact haulierlaw27_Light.mono _ _ _)
      | (with_reducible exact haulierlaw27_alive.mono _)
      | (with_reducible exact haulierref27_Check.mono _ _)
      | (with_reducible exact haulierref27_Metric.mono _ _)
      | (with_reducible exact LeO.refl _)
      | (with_reducible exact LeO.none _)
      | (with_reducible refine LeO.ite ?_ ?_)
      | (with_reducible refine LeO.bind ?_ (fun _ => ?_))
      | exact ih0 _ _ _ _ _ _ _
      | exact ih1 _ _ _ _ _ _
      | exact chart_Check.mono _ _
      | exact chart_Metric.mono _ _
      | exact chart_Way.mono _ _ _ _
      | exact haulierlaw27_Light.mono _ _ _
      | exact haulierlaw27_alive.mono _
      | exact haulierref27_Check.mono _ _
      | exact haulierref27_Metric.mono _ _
      | exact LeO.none _
      | refine LeO.ite ?_ ?_
      | refine LeO.bind ?_ (fun _ => ?_)
set_option maxHeartbeats 8000000 in
set_option maxRecDepth 100000 in
theorem haulierlaw27_ChartChecks.calls (k : Nat) (A0 : Option Addr) (c0 : Nat) (l0 : List (List Int)) (a1 : Int) (a2 : Int) (r : Bool) (w : World) (hr0 : Kd.C (Kd.slice 3 (Kd.int .i64)) w A0 l0.length l0) (hc0 : l0.length ≤ c0) (h : haulierlaw27_ChartChecks.f k l0 a1 a2 = some r) :
    Calls Try.prog 5 #[.slice A0 l0.length c0, .int .i64 a1, .int .i64 a2] w fun e w' => e = .returned (.bool r) ∧ Below w.heap.size w w' := by
  have HR0 := Aside0.mk hr0
  have HC0 := Aside0.mk hc0
  clear hr0 hc0
  have HB := Aside0.mk (Below.refl w.heap.size w)
  have H : ((haulierlaw27_Light.f k l0 210).bind fun t215 => (if t215 = true then ((chart_Check.f k l0).bind fun bt217 => ((haulierref27_Check.f k l0).bind fun bt220 => ((chart_Way.f k l0 a1 a2).bind fun bt223 => (if bt217.1 = bt220.1 then (if bt217.2.1 = bt220.2.1 then (if bt217.2.2 = bt220.2.2 then ((chart_Metric.f k l0).bind fun t225 => ((haulierref27_Metric.f k l0).bind fun t226 => (haulierlaw27_ChartChecks.j0 k l0 a1 a2 bt220.2.2 bt223.1 bt223.2 (t225 != t226)))) else (haulierlaw27_ChartChecks.j0 k l0 a1 a2 bt220.2.2 bt223.1 bt223.2 true)) else (haulierlaw27_ChartChecks.j0 k l0 a1 a2 bt220.2.2 bt223.1 bt223.2 true)) else (haulierlaw27_ChartChecks.j0 k l0 a1 a2 bt220.2.2 bt223.1 bt223.2 true))))) else ((haulierlaw27_alive.f k).bind fun t216 => (some t216)))) = some r := h
  clear h
  replace H := Option.bind_eq_some_iff.mp H
  obtain ⟨t215, A40, H⟩ := H
  replace H : (if t215 = true then ((chart_Check.f k l0).bind fun bt217 => ((haulierref27_Check.f k l0).bind fun bt220 => ((chart_Way.f k l0 a1 a2).bind fun bt223 => (if bt217.1 = bt220.1 then (if bt217.2.1 = bt220.2.1 then (if bt217.2.2 = bt220.2.2 then ((chart_Metric.f k l0).bind fun t225 => ((haulierref27_Metric.f k l0).bind fun t226 => (haulierlaw27_ChartChecks.j0 k l0 a1 a2 bt220.2.2 bt223.1 bt223.2 (t225 != t226)))) else (haulierlaw27_ChartChecks.j0 k l0 a1 a2 bt220.2.2 bt223.1 bt223.2 true)) else (haulierlaw27_ChartChecks.j0 k l0 a1 a2 bt220.2.2 bt223.1 bt223.2 true)) else (haulierlaw27_ChartChecks.j0 k l0 a1 a2 bt220.2.2 bt223.1 bt223.2 true))))) else ((haulierlaw27_alive.f k).bind fun t216 => (some t216))) = some r := H
  have A4 := Aside0.mk A40
  clear A40
  by_cases c5 : t215 = true
  · subst c5
    have H1 : ((chart_Check.f k l0).bind fun bt217 => ((haulierref27_Check.f k l0).bind fun bt220 => ((chart_Way.f k l0 a1 a2).bind fun bt223 => (if bt217.1 = bt220.1 then (if bt217.2.1 = bt220.2.1 then (if bt217.2.2 = bt220.2.2 then ((chart_Metric.f k l0).bind fun t225 => ((haulierref27_Metric.f k l0).bind fun t226 => (haulierlaw27_ChartChecks.j0 k l0 a1 a2 bt220.2.2 bt223.1 bt223.2 (t225 != t226)))) else (haulierlaw27_ChartChecks.j0 k l0 a1 a2 bt220.2.2 bt223.1 bt223.2 true)) else (haulierlaw27_ChartChecks.j0 k l0 a1 a2 bt220.2.2 bt223.1 bt223.2 true)) else (haulierlaw27_ChartChecks.j0 k l0 a1 a2 bt220.2.2 bt223.1 bt223.2 true))))) = some r := by rw [if_pos rfl] at H; exact H
    clear H
    have H := H1
    clear H1
    replace H := Option.bind_eq_some_iff.mp H
    obtain ⟨⟨t217, t218, t219⟩, A60, H⟩ := H
    replace H : ((haulierref27_Check.f k l0).bind fun bt220 => ((chart_Way.f k l0 a1 a2).bind fun bt223 => (if t217 = bt220.1 then (if t218 = bt220.2.1 then (if t219 = bt220.2.2 then ((chart_Metric.f k l0).bind fun t225 => ((haulierref27_Metric.f k l0).bind fun t226 => (haulierlaw27_ChartChecks.j0 k l0 a1 a2 bt220.2.2 bt223.1 bt223.2 (t225 != t226)))) else (haulierlaw27_ChartChecks.j0 k l0 a1 a2 bt220.2.2 bt223.1 bt223.2 true)) else (haulierlaw27_ChartChecks.j0 k l0 a1 a2 bt220.2.2 bt223.1 bt223.2 true)) else (haulierlaw27_ChartChecks.j0 k l0 a1 a2 bt220.2.2 bt223.1 bt223.2 true)))) = some r := H
    have A6 := Aside0.mk A60
    clear A60
    replace H := Option.bind_eq_some_iff.mp H
    obtain ⟨⟨t220, t221, t222⟩, A70, H⟩ := H
    replace H : ((chart_Way.f k l0 a1 a2).bind fun bt223 => (if t217 = t220 then (if t218 = t221 then (if t219 = t222 then ((chart_Metric.f k l0).bind fun t225 => ((haulierref27_Metric.f k l0).bind fun t226 => (haulierlaw27_ChartChecks.j0 k l0 a1 a2 t222 bt223.1 bt223.2 (t225 != t226)))) else (haulierlaw27_ChartChecks.j0 k l0 a1 a2 t222 bt223.1 bt223.2 true)) else (haulierlaw27_ChartChecks.j0 k l0 a1 a2 t222 bt223.1 bt223.2 true)) else (haulierlaw27_ChartChecks.j0 k l0 a1 a2 t222 bt223.1 bt223.2 true))) = some r := H
    have A7 := Aside0.mk A70
    clear A70
    replace H := Option.bind_eq_some_iff.mp H
    obtain ⟨⟨t223, t224⟩, A80, H⟩ := H
    replace H : (if t217 = t220 then (if t218 = t221 then (if t219 = t222 then ((chart_Metric.f k l0).bind fun t225 => ((haulierref27_Metric.f k l0).bind fun t226 => (haulierlaw27_ChartChecks.j0 k l0 a1 a2 t222 t223 t224 (t225 != t226)))) else (haulierlaw27_ChartChecks.j0 k l0 a1 a2 t222 t223 t224 true)) else (haulierlaw27_ChartChecks.j0 k l0 a1 a2 t222 t223 t224 true)) else (haulierlaw27_ChartChecks.j0 k l0 a1 a2 t222 t223 t224 true)) = some r := H
    have A8 := Aside0.mk A80
    clear A80
    have HC9 := Aside0.mk H
    clear H
    go_enter Try.func5, Try.ntmps5
    go_upto_region 6 with (first | ((with_reducible refine gate_callee (f := 8) rfl ?_); refine goesL_ (some 16) rfl rfl Try.func8 (by kernel_rfl) rfl #[.slice A0 l0.length c0, .int .i64 210] rfl (by (try simp only [List.map_toArray, List.map_cons, List.map_nil]); first | done | rfl | (simp only [List.length_drop, List.length_take]; rfl)) ?_; (with_reducible refine (haulierlaw27_Light.calls k _ _ l0 210 true _ ?side1 ?side2 A4.out).mono ?_); (case side1 => repeat (first | exact HR0.out | (with_reducible refine Kd.C_alloc ?_ _) | (with_reducible refine Kd.C_drewN ?_ _) | (with_reducible refine Kd.C_drew ?_))); (case side2 => exact HC0.out); rintro e w' ⟨rfl, ⟨nd, rfl⟩⟩; refine ⟨_, rfl, ?_⟩) | ((with_reducible refine gate_callee (f := 20) rfl ?_); refine goesL_ (some 21) rfl rfl Try.func20 (by kernel_rfl) rfl #[.slice A0 l0.length c0] rfl (by (try simp only [List.map_toArray, List.map_cons, List.map_nil]); first | done | rfl | (simp only [List.length_drop, List.length_take]; rfl)) ?_; (with_reducible refine (chart_Check.calls k _ _ l0 t217 t218 t219 _ ?side1 ?side2 A6.out).mono ?_); (case side1 => repeat (first | exact HR0.out | (with_reducible refine Kd.C_alloc ?_ _) | (with_reducible refine Kd.C_drewN ?_ _) | (with_reducible refine Kd.C_drew ?_))); (case side2 => exact HC0.out); rintro e w' ⟨rfl, ⟨nd, rfl⟩⟩; refine ⟨_, rfl, ?_⟩) | ((with_reducible refine gate_callee (f := 14) rfl ?_); refine goesL_ (some 27) rfl rfl Try.func14 (by kernel_rfl) rfl #[.slice A0 l0.length c0] rfl (by (try simp only [List.map_toArray, List.map_cons, List.map_nil]); first | done | rfl | (simp only [List.length_drop, List.length_take]; rfl)) ?_; (with_reducible refine (haulierref27_Check.calls k _ _ l0 t220 t221 t222 _ ?side1 ?side2 A7.out).mono ?_); (case side1 => repeat (first | exact HR0.out | (with_reducible refine Kd.C_alloc ?_ _) | (with_reducible refine Kd.C_drewN ?_ _) | (with_reducible refine Kd.C_drew ?_))); (case side2 => exact HC0.out); rintro e w' ⟨rfl, ⟨nd, rfl⟩⟩; refine ⟨_, rfl, ?_⟩) | ((with_reducible refine gate_callee (f := 21) rfl ?_); refine goesL_ (some 35) rfl rfl Try.func21 (by kernel_rfl) rfl #[.slice A0 l0.length c0, .int .i64 a1, .int .i64 a2] rfl (by (try simp only [List.map_toArray, List.map_cons, List.map_nil]); first | done | rfl | (simp only [List.length_drop, List.length_take]; rfl)) ?_; (with_reducible refine (chart_Way.calls k _ _ l0 a1 a2 t223 t224 _ ?side1 ?side2 A8.out).mono ?_); (case side1 => repeat (first | exact HR0.out | (with_reducible refine Kd.C_alloc ?_ _) | (with_reducible refine Kd.C_drewN ?_ _) | (with_reducible refine Kd.C_drew ?_))); (case side2 => exact HC0.out); rintro e w10 ⟨rfl, hb⟩; refine ⟨_, rfl, ?_⟩; have n0_ := Aside0.mk (below_step (by repeat (first | (with_reducible first | exact HB.out | apply below_alloc | apply pw_below_drewN | apply below_drew1) | exact HB.out)) hb); clear HB; have HB := n0_; clear n0_; (try clear hb); (try clear hb2); (try clear hk); (try clear hi)))
    (try simp only [Act.put, List.setIfInBounds_toArray, List.set_cons_zero, List.set_cons_succ])
    go_cut [57] (fun v57 wc => ∃ (kq : Nat) (x57_8 : Bool), v57 = .bool x57_8 ∧ Aside0 (haulierlaw27_ChartChecks.j0 kq l0 a1 a2 t222 t223 t224 x57_8 = some r) ∧ Aside0 (kq ≤ k) ∧ Aside0 (Below w.heap.size w wc))
    case first =>
      have H := HC9.out
      clear HC9
      by_cases c11 : t217 = t220
      · rw [if_pos c11] at H
        have c11b0 : (t217 == t220) = true := beq_iff_eq.mpr c11
        have c11b1 : (t217 != t220) = false := bne_eq_false_iff_eq.mpr c11
        clear c11
        (first | rw [c11b0] | (simp only [i64_w, i32_w]; rw [c11b0]) | skip)
        by_cases c12 : t218 = t221
        · rw [if_pos c12] at H
          have c12b0 : (t218 == t221) = true := beq_iff_eq.mpr c12
          have c12b1 : (t218 != t221) = false := bne_eq_false_iff_eq.mpr c12
          clear c12
          by_cases c13 : t219 = t222
          · rw [if_pos c13] at H
            have c13b0 : (t219 == t222) = true := beq_iff_eq.mpr c13
            have c13b1 : (t219 != t222) = false := bne_eq_false_iff_eq.mpr c13
            clear c13
            replace H := Option.bind_eq_some_iff.mp H
            obtain ⟨t225, A140, H⟩ := H
            replace H : ((haulierref27_Metric.f k l0).bind fun t226 => (haulierlaw27_ChartChecks.j0 k l0 a1 a2 t222 t223 t224 (t225 != t226))) = some r := H
            have A14 := Aside0.mk A140
            clear A140
            replace H := Option.bind_eq_some_iff.mp H
            obtain ⟨t226, A150, H⟩ := H
            replace H : (haulierlaw27_ChartChecks.j0 k l0 a1 a2 t222 t223 t224 (t225 != t226)) = some r := H
            have A15 := Aside0.mk A150
            clear A150
            have H' := Aside0.mk H
            clear H
            go_wp2_with (first | (go_at_call 22; (with_reducible refine (chart_Metric.calls k _ _ l0 t225 _ ?side1 ?side2 A14.out).mono ?_); (case side1 => repeat (first | exact (Kd.C_below HR0.out HB.out) | (with_reducible refine Kd.C_alloc ?_ _) | (with_reducible refine Kd.C_drewN ?_ _) | (with_reducible refine Kd.C_drew ?_))); (case side2 => exact HC0.out); rintro e w' ⟨rfl, ⟨nd, rfl⟩⟩) | (go_at_call 23; (with_reducible refine (haulierref27_Metric.calls k _ _ l0 t226 _ ?side1 ?side2 A15.out).mono ?_); (case side1 => repeat (first | exact (Kd.C_below HR0.out (by repeat (first | (with_reducible first | exact HB.out | apply below_alloc | apply pw_below_drewN | apply below_drew1) | exact HB.out))) | (with_reducible refine Kd.C_alloc ?_ _) | (with_reducible refine Kd.C_drewN ?_ _) | (with_reducible refine Kd.C_drew ?_))); (case side2 => exact HC0.out); rintro e w' ⟨rfl, ⟨nd, rfl⟩⟩))
            go_meet
            case rel => exact ⟨_, ((t225 != t226)), (by first | rfl | (simp; done) | (simp [*]; done)), H', ⟨by first | omega | exact Nat.le_refl _⟩, ⟨by repeat (first | (with_reducible first | exact HB.out | apply below_alloc | apply pw_below_drewN | apply below_drew1) | exact HB.out)⟩⟩
          · rw [if_neg c13] at H
            have c13b0 : (t219 == t222) = false := beq_eq_false_iff_ne.mpr c13
            have c13b1 : (t219 != t222) = true := bne_iff_ne.mpr c13
            have H' := Aside0.mk H
            clear H
            go_wp2
            go_meet
            case rel => exact ⟨_, (true), (by first | rfl | (simp; done) | (simp [*]; done)), H', ⟨by first | omega | exact Nat.le_refl _⟩, ⟨by repeat (first | (with_reducible first | exact HB.out | apply below_alloc | apply pw_below_drewN | apply below_drew1) | exact HB.out)⟩⟩
        · rw [if_neg c12] at H
          have c12b0 : (t218 == t221) = false := beq_eq_false_iff_ne.mpr c12
          have c12b1 : (t218 != t221) = true := bne_iff_ne.mpr c12
          have H' := Aside0.mk H
          clear H
          go_wp2
          go_meet
          case rel => exact ⟨_, (true), (by first | rfl | (simp; done) | (simp [*]; done)), H', ⟨by first | omega | exact Nat.le_refl _⟩, ⟨by repeat (first | (with_reducible first | exact HB.out | apply below_alloc | apply pw_below_drewN | apply below_drew1) | exact HB.out)⟩⟩
      · rw [if_neg c11] at H
        have c11b0 : (t217 == t220) = false := beq_eq_false_iff_ne.mpr c11
        have c11b1 : (t217 != t220) = true := bne_iff_ne.mpr c11
        (first | rw [c11b0] | (simp only [i64_w, i32_w]; rw [c11b0]) | skip)
        have H' := Aside0.mk H
        clear H
        go_wp2
        go_meet
        case rel => exact ⟨_, (true), (by first | rfl | (simp; done) | (simp [*]; done)), H', ⟨by first | omega | exact Nat.le_refl _⟩, ⟨by repeat (first | (with_reducible first | exact HB.out | apply below_alloc | apply pw_below_drewN | apply below_drew1) | exact HB.out)⟩⟩
    case rest =>
      clear HC9
      try clear c1
      try clear c2
      try clear p2
      try clear c5
      try clear c8
      try clear c11
      try clear c11b0
      try clear c11b1
      try clear c12
      try clear c12b0
      try clear c12b1
      try clear c13
      try clear c13b0
      try clear c13b1
      try clear c14
      obtain ⟨kq, x57_8, rfl, HA, HJ8, HB⟩ := hcut
      cases kq with
      | zero => exact absurd HA.out (by simp [haulierlaw27_ChartChecks.j0])
      | succ kj8 =>
        have H := HA.out
        clear HA
        simp only [haulierlaw27_ChartChecks.j0] at H
        by_cases c16 : x57_8 = true
        · subst c16
          have H1 : (some false) = some r := by rw [if_pos rfl] at H; exact H
          clear H
          have H := H1
          clear H1
          obtain rfl := Option.some.inj H
          go_wp2
          go_ret
          exact ⟨by first | rfl | (simp [errW_none, errW_some] <;> rfl) | (simp [*, errW_none, errW_some] <;> rfl), by repeat (first | (with_reducible first | exact HB.out | apply below_alloc | apply pw_below_drewN | apply below_drew1) | exact HB.out)⟩
        · replace c16 := Bool.eq_false_iff.mpr c16
          subst c16
          have H1 : (if t222 = 0 then ((haulierref27_Place.f l0 a1).bind fun t227 => (if t227 = true then ((haulierref27_Place.f l0 a2).bind fun t228 => (haulierlaw27_ChartChecks.j1 kj8 l0 a1 a2 t223 t224 (!t228))) else (haulierlaw27_ChartChecks.j1 kj8 l0 a1 a2 t223 t224 true))) else (if t223 = 0 then (if t224 = t222 then ((haulierlaw27_alive.f kj8).bind fun t233 => (some t233)) else (some false)) else (some false))) = some r := by rw [if_neg (show ¬ (false = true) by decide)] at H; exact H
          clear H
          have H := H1
          clear H1
          by_cases c17 : t222 = 0
          · rw [if_pos c17] at H
            have c17b0 : (t222 == 0) = true := beq_iff_eq.mpr c17
            have c17b1 : (t222 != 0) = false := bne_eq_false_iff_eq.mpr c17
            clear c17
            have HC18 := Aside0.mk H
            clear H
            go_upto_region 10 with (fail)
            go_cut [71] (fun v71 wc => ∃ (kq : Nat) (x71_17 : Bool), v71 = .bool x71_17 ∧ Aside0 (haulierlaw27_ChartChecks.j1 kq l0 a1 a2 t223 t224 x71_17 = some r) ∧ Aside0 (kq ≤ kj8) ∧ Aside0 (Below w.heap.size w wc))
            case first =>
              have H := HC18.out
              clear HC18
              replace H := Option.bind_eq_some_iff.mp H
              obtain ⟨t227, A190, H⟩ := H
              replace H : (if t227 = true then ((haulierref27_Place.f l0 a2).bind fun t228 => (haulierlaw27_ChartChecks.j1 kj8 l0 a1 a2 t223 t224 (!t228))) else (haulierlaw27_ChartChecks.j1 kj8 l0 a1 a2 t223 t224 true)) = some r := H
              have A19 := Aside0.mk A190
              clear A190
              by_cases c20 : t227 = true
              · subst c20
                have H1 : ((haulierref27_Place.f l0 a2).bind fun t228 => (haulierlaw27_ChartChecks.j1 kj8 l0 a1 a2 t223 t224 (!t228))) = some r := by rw [if_pos rfl] at H; exact H
                clear H
                have H := H1
                clear H1
                replace H := Option.bind_eq_some_iff.mp H
                obtain ⟨t228, A210, H⟩ := H
                replace H : (haulierlaw27_ChartChecks.j1 kj8 l0 a1 a2 t223 t224 (!t228)) = some r := H
                have A21 := Aside0.mk A210
                clear A210
                have H' := Aside0.mk H
                clear H
                go_wp2_with (first | ((with_reducible refine gate_callee (f := 17) rfl ?_); refine goesL_ (some 74) rfl rfl Try.func17 (by kernel_rfl) rfl #[.slice A0 l0.length c0, .int .i64 a1] rfl (by (try simp only [List.map_toArray, List.map_cons, List.map_nil]); first | done | rfl | (simp only [List.length_drop, List.length_take]; rfl)) ?_; (with_reducible refine (haulierref27_Place.calls _ _ l0 a1 true _ ?side1 ?side2 A19.out).mono ?_); (case side1 => repeat (first | exact (Kd.C_below HR0.out HB.out) | (with_reducible refine Kd.C_alloc ?_ _) | (with_reducible refine Kd.C_drewN ?_ _) | (with_reducible refine Kd.C_drew ?_))); (case side2 => exact HC0.out); rintro e w' ⟨rfl, ⟨nd, rfl⟩⟩; refine ⟨_, rfl, ?_⟩) | (go_at_call 17; (with_reducible refine (haulierref27_Place.calls _ _ l0 a2 t228 _ ?side1 ?side2 A21.out).mono ?_); (case side1 => repeat (first | exact (Kd.C_below HR0.out (by repeat (first | (with_reducible first | exact HB.out | apply below_alloc | apply pw_below_drewN | apply below_drew1) | exact HB.out))) | (with_reducible refine Kd.C_alloc ?_ _) | (with_reducible refine Kd.C_drewN ?_ _) | (with_reducible refine Kd.C_drew ?_))); (case side2 => exact HC0.out); rintro e w' ⟨rfl, ⟨nd, rfl⟩⟩))
                go_meet
                case rel => exact ⟨_, (!t228), (by first | rfl | (simp; done) | (simp [*]; done)), H', ⟨by have := HJ8.out; first | omega | exact Nat.le_refl _⟩, ⟨by repeat (first | (with_reducible first | exact HB.out | apply below_alloc | apply pw_below_drewN | apply below_drew1) | exact HB.out)⟩⟩
              · replace c20 := Bool.eq_false_iff.mpr c20
                subst c20
                have H1 : (haulierlaw27_ChartChecks.j1 kj8 l0 a1 a2 t223 t224 true) = some r := by rw [if_neg (show ¬ (false = true) by decide)] at H; exact H
                clear H
                have H := H1
                clear H1
                have H' := Aside0.mk H
                clear H
                go_wp2_with (first | ((with_reducible refine gate_callee (f := 17) rfl ?_); refine goesL_ (some 74) rfl rfl Try.func17 (by kernel_rfl) rfl #[.slice A0 l0.length c0, .int .i64 a1] rfl (by (try simp only [List.map_toArray, List.map_cons, List.map_nil]); first | done | rfl | (simp only [List.length_drop, List.length_take]; rfl)) ?_; (with_reducible refine (haulierref27_Place.calls _ _ l0 a1 false _ ?side1 ?side2 A19.out).mono ?_); (case side1 => repeat (first | exact (Kd.C_below HR0.out HB.out) | (with_reducible refine Kd.C_alloc ?_ _) | (with_reducible refine Kd.C_drewN ?_ _) | (with_reducible refine Kd.C_drew ?_))); (case side2 => exact HC0.out); rintro e w' ⟨rfl, ⟨nd, rfl⟩⟩; refine ⟨_, rfl, ?_⟩))
                go_meet
                case rel => exact ⟨_, (true), (by first | rfl | (simp; done) | (simp [*]; done)), H', ⟨by have := HJ8.out; first | omega | exact Nat.le_refl _⟩, ⟨by repeat (first | (with_reducible first | exact HB.out | apply below_alloc | apply pw_below_drewN | apply below_drew1) | exact HB.out)⟩⟩
            case rest =>
              clear HC18
              try clear c1
              try clear c2
              try clear p2
              try clear c5
              try clear c8
              try clear c11
              try clear c11b0
              try clear c11b1
              try clear c12
              try clear c12b0
              try clear c12b1
              try clear c13
              try clear c13b0
              try clear c13b1
              try clear c14
              try clear c16
              try clear c17
              try clear c17b0
              try clear c17b1
              try clear c20
              try clear c21
              try clear p2
              obtain ⟨kq, x71_17, rfl, HA, HJ17, HB⟩ := hcut
              cases kq with
              | zero => exact absurd HA.out (by simp [haulierlaw27_ChartChecks.j1])
              | succ kj17 =>
                have H := HA.out
                clear HA
                simp only [haulierlaw27_ChartChecks.j1] at H
                by_cases c22 : x71_17 = true
                · subst c22
                  have H1 : (if t223 = 0 then (if t224 = 10 then ((haulierlaw27_alive.f kj17).bind fun t229 => (some t229)) else (some false)) else (some false)) = some r := by rw [if_pos rfl] at H; exact H
                  clear H
                  have H := H1
                  clear H1
                  by_cases c23 : t223 = 0
                  · rw [if_pos c23] at H
                    have c23b0 : (t223 == 0) = true := beq_iff_eq.mpr c23
                    have c23b1 : (t223 != 0) = false := bne_eq_false_iff_eq.mpr c23
                    clear c23
                    by_cases c24 : t224 = 10
                    · rw [if_pos c24] at H
                      have c24b0 : (t224 == 10) = true := beq_iff_eq.mpr c24
                      have c24b1 : (t224 != 10) = false := bne_eq_false_iff_eq.mpr c24
                      clear c24
                      replace H := Option.bind_eq_some_iff.mp H
                      obtain ⟨t229, A250, H⟩ := H
                      replace H : (some t229) = some r := H
                      have A25 := Aside0.mk A250
                      clear A250
                      obtain rfl := Option.some.inj H
                      go_wp2_with (first | (go_at_call 9; (with_reducible refine (haulierlaw27_alive.calls kj17  t229 _ A25.out).mono ?_); rintro e w26 ⟨rfl, hb⟩; have n0_ := Aside0.mk (below_step (by repeat (first | (with_reducible first | exact HB.out | apply below_alloc | apply pw_below_drewN | apply below_drew1) | exact HB.out)) hb); clear HB; have HB := n0_; clear n0_; (try clear hb); (try clear hb2); (try clear hk); (try clear hi)))
                      go_ret
                      exact ⟨by first | rfl | (simp [errW_none, errW_some] <;> rfl) | (simp [*, errW_none, errW_some] <;> rfl), by repeat (first | (with_reducible first | exact HB.out | apply below_alloc | apply pw_below_drewN | apply below_drew1) | exact HB.out)⟩
                    · rw [if_neg c24] at H
                      have c24b0 : (t224 == 10) = false := beq_eq_false_iff_ne.mpr c24
                      have c24b1 : (t224 != 10) = true := bne_iff_ne.mpr c24
                      obtain rfl := Option.some.inj H
                      go_wp2
                      go_ret
                      exact ⟨by first | rfl | (simp [errW_none, errW_some] <;> rfl) | (simp [*, errW_none, errW_some] <;> rfl), by repeat (first | (with_reducible first | exact HB.out | apply below_alloc | apply pw_below_drewN | apply below_drew1) | exact HB.out)⟩
                  · rw [if_neg c23] at H
                    have c23b0 : (t223 == 0) = false := beq_eq_false_iff_ne.mpr c23
                    have c23b1 : (t223 != 0) = true := bne_iff_ne.mpr c23
                    obtain rfl := Option.some.inj H
                    go_wp2
                    go_ret
                    exact ⟨by first | rfl | (simp [errW_none, errW_some] <;> rfl) | (simp [*, errW_none, errW_some] <;> rfl), by repeat (first | (with_reducible first | exact HB.out | apply below_alloc | apply pw_below_drewN | apply below_drew1) | exact HB.out)⟩
                · replace c22 := Bool.eq_false_iff.mpr c22
                  subst c22
                  have H1 : (if 0 ≤ a1 then (if a1 < (l0.length : Int) then (if 0 ≤ a2 then (if a2 < ((rd_L1 l0 a1).length : Int) then (if t223 = (rd (rd_L1 l0 a1) a2) then (if t224 = 0 then ((haulierlaw27_alive.f kj17).bind fun t232 => (some t232)) else (some false)) else (some false)) else (none)) else (none)) else (none)) else (none)) = some r := by rw [if_neg (show ¬ (false = true) by decide)] at H; exact H
                  clear H
                  have H := H1
                  clear H1
                  by_cases c27 : 0 ≤ a1
                  · rw [if_pos c27] at H
                    have c27b0 : decide (0 ≤ a1) = true := decide_eq_true c27
                    clear c27
                    by_cases c28 : a1 < (l0.length : Int)
                    · rw [if_pos c28] at H
                      have c28b0 : decide (a1 < (l0.length : Int)) = true := decide_eq_true c28
                      clear c28
                      by_cases c29 : 0 ≤ a2
                      · rw [if_pos c29] at H
                        have c29b0 : decide (0 ≤ a2) = true := decide_eq_true c29
                        clear c29
                        by_cases c30 : a2 < ((rd_L1 l0 a1).length : Int)
                        · rw [if_pos c30] at H
                          have c30b0 : decide (a2 < ((rd_L1 l0 a1).length : Int)) = true := decide_eq_true c30
                          clear c30
                          by_cases c31 : t223 = (rd (rd_L1 l0 a1) a2)
                          · rw [if_pos c31] at H
                            have c31b0 : (t223 == (rd (rd_L1 l0 a1) a2)) = true := beq_iff_eq.mpr c31
                            have c31b1 : (t223 != (rd (rd_L1 l0 a1) a2)) = false := bne_eq_false_iff_eq.mpr c31
                            clear c31
                            by_cases c32 : t224 = 0
                            · rw [if_pos c32] at H
                              have c32b0 : (t224 == 0) = true := beq_iff_eq.mpr c32
                              have c32b1 : (t224 != 0) = false := bne_eq_false_iff_eq.mpr c32
                              clear c32
                              replace H := Option.bind_eq_some_iff.mp H
                              obtain ⟨t232, A330, H⟩ := H
                              replace H : (some t232) = some r := H
                              have A33 := Aside0.mk A330
                              clear A330
                              obtain rfl := Option.some.inj H
                              have p230 : 0 ≤ (a1 : Int) := of_decide_eq_true (by first | (with_reducible assumption) | assumption)
                              have q230 : a1 < (l0.length : Int) := of_decide_eq_true (by first | (with_reducible assumption) | assumption)
                              obtain ⟨ad230, A230_0, c230_0, e230, hx230_0, hl230_0, hi230_0⟩ := at_L1 HR0.out a1 p230 q230
                              cases e230
                              replace hx230_0 := (HB.out.cell (World.block_lt_of_cell? w _ hx230_0)).trans hx230_0
                              have HR230_0 := Aside0.mk hi230_0
                              have HC230_0 := Aside0.mk hl230_0
                              clear hi230_0 hl230_0
                              replace p230 := eq_true p230
                              replace q230 := eq_true q230
                              have p231 : 0 ≤ (a2 : Int) := of_decide_eq_true (by first | (with_reducible assumption) | assumption)
                              have q231 : a2 < ((rd_L1 l0 a1).length : Int) := of_decide_eq_true (by first | (with_reducible assumption) | assumption)
                              obtain ⟨ad231, e231, hx231_0⟩ := Kd.at_int HR230_0.out a2 p231 q231
                              cases e231
                              replace hx231_0 := (HB.out.cell (World.block_lt_of_cell? w _ hx231_0)).trans hx231_0
                              replace p231 := eq_true p231
                              replace q231 := eq_true q231
                              go_wp2_with (first | (go_at_call 9; (with_reducible refine (haulierlaw27_alive.calls kj17  t232 _ A33.out).mono ?_); rintro e w34 ⟨rfl, hb⟩; have n0_ := Aside0.mk (below_step (by repeat (first | (with_reducible first | exact HB.out | apply below_alloc | apply pw_below_drewN | apply below_drew1) | exact HB.out)) hb); clear HB; have HB := n0_; clear n0_; (try clear hb); (try clear hb2); (try clear hk); (try clear hi)))
                              go_ret
                              exact ⟨by first | rfl | (simp [errW_none, errW_some] <;> rfl) | (simp [*, errW_none, errW_some] <;> rfl), by repeat (first | (with_reducible first | exact HB.out | apply below_alloc | apply pw_below_drewN | apply below_drew1) | exact HB.out)⟩
                            · rw [if_neg c32] at H
                              have c32b0 : (t224 == 0) = false := beq_eq_false_iff_ne.mpr c32
                              have c32b1 : (t224 != 0) = true := bne_iff_ne.mpr c32
                              obtain rfl := Option.some.inj H
                              have p230 : 0 ≤ (a1 : Int) := of_decide_eq_true (by first | (with_reducible assumption) | assumption)
                              have q230 : a1 < (l0.length : Int) := of_decide_eq_true (by first | (with_reducible assumption) | assumption)
                              obtain ⟨ad230, A230_0, c230_0, e230, hx230_0, hl230_0, hi230_0⟩ := at_L1 HR0.out a1 p230 q230
                              cases e230
                              replace hx230_0 := (HB.out.cell (World.block_lt_of_cell? w _ hx230_0)).trans hx230_0
                              have HR230_0 := Aside0.mk hi230_0
                              have HC230_0 := Aside0.mk hl230_0
                              clear hi230_0 hl230_0
                              replace p230 := eq_true p230
                              replace q230 := eq_true q230
                              have p231 : 0 ≤ (a2 : Int) := of_decide_eq_true (by first | (with_reducible assumption) | assumption)
                              have q231 : a2 < ((rd_L1 l0 a1).length : Int) := of_decide_eq_true (by first | (with_reducible assumption) | assumption)
                              obtain ⟨ad231, e231, hx231_0⟩ := Kd.at_int HR230_0.out a2 p231 q231
                              cases e231
                              replace hx231_0 := (HB.out.cell (World.block_lt_of_cell? w _ hx231_0)).trans hx231_0
                              replace p231 := eq_true p231
                              replace q231 := eq_true q231
                              go_wp2
                              go_ret
                              exact ⟨by first | rfl | (simp [errW_none, errW_some] <;> rfl) | (simp [*, errW_none, errW_some] <;> rfl), by repeat (first | (with_reducible first | exact HB.out | apply below_alloc | apply pw_below_drewN | apply below_drew1) | exact HB.out)⟩
                          · rw [if_neg c31] at H
                            have c31b0 : (t223 == (rd (rd_L1 l0 a1) a2)) = false := beq_eq_false_iff_ne.mpr c31
                            have c31b1 : (t223 != (rd (rd_L1 l0 a1) a2)) = true := bne_iff_ne.mpr c31
                            obtain rfl := Option.some.inj H
                            have p230 : 0 ≤ (a1 : Int) := of_decide_eq_true (by first | (with_reducible assumption) | assumption)
                            have q230 : a1 < (l0.length : Int) := of_decide_eq_true (by first | (with_reducible assumption) | assumption)
                            obtain ⟨ad230, A230_0, c230_0, e230, hx230_0, hl230_0, hi230_0⟩ := at_L1 HR0.out a1 p230 q230
                            cases e230
                            replace hx230_0 := (HB.out.cell (World.block_lt_of_cell? w _ hx230_0)).trans hx230_0
                            have HR230_0 := Aside0.mk hi230_0
                            have HC230_0 := Aside0.mk hl230_0
                            clear hi230_0 hl230_0
                            replace p230 := eq_true p230
                            replace q230 := eq_true q230
                            have p231 : 0 ≤ (a2 : Int) := of_decide_eq_true (by first | (with_reducible assumption) | assumption)
                            have q231 : a2 < ((rd_L1 l0 a1).length : Int) := of_decide_eq_true (by first | (with_reducible assumption) | assumption)
                            obtain ⟨ad231, e231, hx231_0⟩ := Kd.at_int HR230_0.out a2 p231 q231
                            cases e231
                            replace hx231_0 := (HB.out.cell (World.block_lt_of_cell? w _ hx231_0)).trans hx231_0
                            replace p231 := eq_true p231
                            replace q231 := eq_true q231
                            go_wp2
                            go_ret
                            exact ⟨by first | rfl | (simp [errW_none, errW_some] <;> rfl) | (simp [*, errW_none, errW_some] <;> rfl), by repeat (first | (with_reducible first | exact HB.out | apply below_alloc | apply pw_below_drewN | apply below_drew1) | exact HB.out)⟩
                        · rw [if_neg c30] at H
                          exact absurd H (by simp)
                      · rw [if_neg c29] at H
                        exact absurd H (by simp)
                    · rw [if_neg c28] at H
                      exact absurd H (by simp)
                  · rw [if_neg c27] at H
                    exact absurd H (by simp)
          · rw [if_neg c17] at H
            have c17b0 : (t222 == 0) = false := beq_eq_false_iff_ne.mpr c17
            have c17b1 : (t222 != 0) = true := bne_iff_ne.mpr c17
            by_cases c35 : t223 = 0
            · rw [if_pos c35] at H
              have c35b0 : (t223 == 0) = true := beq_iff_eq.mpr c35
              have c35b1 : (t223 != 0) = false := bne_eq_false_iff_eq.mpr c35
              clear c35
              by_cases c36 : t224 = t222
              · rw [if_pos c36] at H
                have c36b0 : (t224 == t222) = true := beq_iff_eq.mpr c36
                have c36b1 : (t224 != t222) = false := bne_eq_false_iff_eq.mpr c36
                clear c36
                replace H := Option.bind_eq_some_iff.mp H
                obtain ⟨t233, A370, H⟩ := H
                replace H : (some t233) = some r := H
                have A37 := Aside0.mk A370
                clear A370
                obtain rfl := Option.some.inj H
                go_wp2_with (first | (go_at_call 9; (with_reducible refine (haulierlaw27_alive.calls kj8  t233 _ A37.out).mono ?_); rintro e w38 ⟨rfl, hb⟩; have n0_ := Aside0.mk (below_step (by repeat (first | (with_reducible first | exact HB.out | apply below_alloc | apply pw_below_drewN | apply below_drew1) | exact HB.out)) hb); clear HB; have HB := n0_; clear n0_; (try clear hb); (try clear hb2); (try clear hk); (try clear hi)))
                go_ret
                exact ⟨by first | rfl | (simp [errW_none, errW_some] <;> rfl) | (simp [*, errW_none, errW_some] <;> rfl), by repeat (first | (with_reducible first | exact HB.out | apply below_alloc | apply pw_below_drewN | apply below_drew1) | exact HB.out)⟩
              · rw [if_neg c36] at H
                have c36b0 : (t224 == t222) = false := beq_eq_false_iff_ne.mpr c36
                have c36b1 : (t224 != t222) = true := bne_iff_ne.mpr c36
                obtain rfl := Option.some.inj H
                go_wp2
                go_ret
                exact ⟨by first | rfl | (simp [errW_none, errW_some] <;> rfl) | (simp [*, errW_none, errW_some] <;> rfl), by repeat (first | (with_reducible first | exact HB.out | apply below_alloc | apply pw_below_drewN | apply below_drew1) | exact HB.out)⟩
            · rw [if_neg c35] at H
              have c35b0 : (t223 == 0) = false := beq_eq_false_iff_ne.mpr c35
              have c35b1 : (t223 != 0) = true := bne_iff_ne.mpr c35
              obtain rfl := Option.some.inj H
              go_wp2
              go_ret
              exact ⟨by first | rfl | (simp [errW_none, errW_some] <;> rfl) | (simp [*, errW_none, errW_some] <;> rfl), by repeat (first | (with_reducible first | exact HB.out | apply below_alloc | apply pw_below_drewN | apply below_drew1) | exact HB.out)⟩
  · replace c5 := Bool.eq_false_iff.mpr c5
    subst c5
    have H1 : ((haulierlaw27_alive.f k).bind fun t216 => (some t216)) = some r := by rw [if_neg (show ¬ (false = true) by decide)] at H; exact H
    clear H
    have H := H1
    clear H1
    replace H := Option.bind_eq_some_iff.mp H
    obtain ⟨t216, A390, H⟩ := H
    replace H : (some t216) = some r := H
    have A39 := Aside0.mk A390
    clear A390
    obtain rfl := Option.some.inj H
    go_enter Try.func5, Try.ntmps5
    go_wp2_with (first | ((with_reducible refine gate_callee (f := 8) rfl ?_); refine goesL_ (some 16) rfl rfl Try.func8 (by kernel_rfl) rfl #[.slice A0 l0.length c0, .int .i64 210] rfl (by (try simp only [List.map_toArray, List.map_cons, List.map_nil]); first | done | rfl | (simp only [List.length_drop, List.length_take]; rfl)) ?_; (with_reducible refine (haulierlaw27_Light.calls k _ _ l0 210 false _ ?side1 ?side2 A4.out).mono ?_); (case side1 => repeat (first | exact HR0.out | (with_reducible refine Kd.C_alloc ?_ _) | (with_reducible refine Kd.C_drewN ?_ _) | (with_reducible refine Kd.C_drew ?_))); (case side2 => exact HC0.out); rintro e w' ⟨rfl, ⟨nd, rfl⟩⟩; refine ⟨_, rfl, ?_⟩) | ((with_reducible refine gate_callee (f := 9) rfl ?_); refine goesL_ (some 18) rfl rfl Try.func9 (by kernel_rfl) rfl #[] rfl (by (try simp only [List.map_toArray, List.map_cons, List.map_nil]); first | done | rfl | (simp only [List.length_drop, List.length_take]; rfl)) ?_; (with_reducible refine (haulierlaw27_alive.calls k  t216 _ A39.out).mono ?_); rintro e w40 ⟨rfl, hb⟩; refine ⟨_, rfl, ?_⟩; have n0_ := Aside0.mk (below_step (by repeat (first | (with_reducible first | exact HB.out | apply below_alloc | apply pw_below_drewN | apply below_drew1) | exact HB.out)) hb); clear HB; have HB := n0_; clear n0_; (try clear hb); (try clear hb2); (try clear hk); (try clear hi)))
    go_ret
    exact ⟨by first | rfl | (simp [errW_none, errW_some] <;> rfl) | (simp [*, errW_none, errW_some] <;> rfl), by repeat (first | (with_reducible first | exact HB.out | apply below_alloc | apply pw_below_drewN | apply below_drew1) | exact HB.out)⟩

/-- THE ONE PURE STATEMENT of haulierlaw27_ChartChecks. -/
def haulierlaw27_ChartChecks.Pure : Prop := ∀ (l0 : List (List Int)) (a1 : Int) (a2 : Int), l0.length ≤ maxLen → (∀ x ∈ l0, (x.length ≤ maxLen ∧ ∀ y1_ ∈ x, (Lit.int .i64 y1_).wf = true)) → (Lit.int .i64 a1).wf = true → (Lit.int .i64 a2).wf = true → ∃ k, haulierlaw27_ChartChecks.f k l0 a1 a2 = some true

end Go.Proofs.Ytecncfnbeocneaa.MChartChecks
