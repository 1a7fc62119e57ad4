/- Written by a program of this session: Go functions that the law MoveAll reaches, as Lean functions, each with a proof that the Go code comes to just what it says; every input of the kinds that a contract names. -/
import Derived.Test.YtcofibbgdnbejaaMMoveAllx0
import Derived.Test.YtcofibbgdnbejaaMMoveAllx1
import Derived.Test.YtcofibbgdnbejaaMMoveAllx2
import Derived.Test.YtcofibbgdnbejaaMMoveAllx3
import Derived.Test.YtcofibbgdnbejaaMMoveAllx9
namespace Go.Proofs.Ytcofibbgdnbejaa.MMoveAll
open Go.RowKit Go.Proofs.YtcofibbgdnbejaaW.PrintWords Go.Proofs.YtcofibbgdnbejaaW.PrintLast Go.Proofs.YtcofibbgdnbejaaW.PrintMore
attribute [local go_sem] max2_int min2_int max_two min_two max_three min_three max_four min_four
set_option linter.unusedVariables false
set_option linter.unusedSimpArgs false
set_option linter.unnecessarySimpa false
attribute [local go_sem high] eqA29 eqA24
/-! ### haulierlaw36_MoveAll: function 7 -/
def haulierlaw36_MoveAll.l0 : Nat → List (S35) → Int → List (S29) → List (S24) → Int → Int → Option (Bool)
  | 0, _, _, _, _, _, _ => none
  | k + 1, x0, x1, x5, x6, x24, x25 => if x25 < x24 then (if 0 ≤ x25 then (if x25 < (x5.length : Int) then (if x25 < (x6.length : Int) then (if (!(((rd_T29 x5 x25).f0) == ((rd_T24 x6 x25).f0)) || (!(((rd_T29 x5 x25).f1) == ((rd_T24 x6 x25).f1)) || (!(((rd_T29 x5 x25).f2) == ((rd_T24 x6 x25).f2)) || (!(((rd_T29 x5 x25).f3) == ((rd_T24 x6 x25).f3)) || (!(((rd_T29 x5 x25).f4) == ((rd_T24 x6 x25).f4)) || (!(((rd_T29 x5 x25).f5) == ((rd_T24 x6 x25).f5)))))))) = true then (none) else (haulierlaw36_MoveAll.l0 k x0 x1 x5 x6 x24 (wrap64 (x25 + 1)))) else (none)) else (none)) else (none)) else ((move_Nth.f k x0 x1).bind fun bt395 => (if x1 < 0 then (if bt395.2.2.2.2.2.2 = true then (none) else (if (bt395.1 == 0 && (bt395.2.1 == 0 && (bt395.2.2.1 == 0 && (bt395.2.2.2.1 == 0 && (bt395.2.2.2.2.1 == 0 && (bt395.2.2.2.2.2.1 == 0)))))) = true then ((haulierlaw36_alive.f k).bind fun t403 => (some t403)) else (none))) else (if x1 ≥ (x6.length : Int) then (if bt395.2.2.2.2.2.2 = true then (none) else (if (bt395.1 == 0 && (bt395.2.1 == 0 && (bt395.2.2.1 == 0 && (bt395.2.2.2.1 == 0 && (bt395.2.2.2.2.1 == 0 && (bt395.2.2.2.2.2.1 == 0)))))) = true then ((haulierlaw36_alive.f k).bind fun t404 => (some t404)) else (none))) else (if bt395.2.2.2.2.2.2 = true then (if 0 ≤ x1 then (if x1 < (x6.length : Int) then (if (bt395.1 == ((rd_T24 x6 x1).f0) && (bt395.2.1 == ((rd_T24 x6 x1).f1) && (bt395.2.2.1 == ((rd_T24 x6 x1).f2) && (bt395.2.2.2.1 == ((rd_T24 x6 x1).f3) && (bt395.2.2.2.2.1 == ((rd_T24 x6 x1).f4) && (bt395.2.2.2.2.2.1 == ((rd_T24 x6 x1).f5))))))) = true then ((haulierlaw36_alive.f k).bind fun t406 => (some t406)) else (none)) else (none)) else (none)) else (none)))))
def haulierlaw36_MoveAll.f (k : Nat) (l0 : List (S35)) (a1 : Int) : Option (Bool) := (haulierlaw36_Light.f k l0 5 8).bind fun t385 => (if t385 = true then ((move_All.f k l0).bind fun t387 => ((haulierref36_All.f k l0).bind fun t390 => (if (t387.length : Int) = (t390.length : Int) then (haulierlaw36_MoveAll.l0 k l0 a1 t387 t390 (t387.length : Int) 0) else (none)))) else ((haulierlaw36_alive.f k).bind fun t386 => (some t386)))
theorem haulierlaw36_MoveAll.mono_l : ∀ k, (∀ y0 y1 y2 y3 y4 y5, LeO (haulierlaw36_MoveAll.l0 k y0 y1 y2 y3 y4 y5) (haulierlaw36_MoveAll.l0 (k + 1) y0 y1 y2 y3 y4 y5))
  | 0 => fun _ _ _ _ _ _ r h => by simp [haulierlaw36_MoveAll.l0] at h
  | k + 1 => by
    have ih0 := haulierlaw36_MoveAll.mono_l k
    · intro y0 y1 y2 y3 y4 y5
      unfold haulierlaw36_MoveAll.l0
      repeat' first
      | (with_reducible exact ih0 _ _ _ _ _ _)
      | (with_reducible exact haulierlaw36_Light.mono _ _ _ _)
      | (with_reducible exact haulierlaw36_alive.mono _)
      | (with_reducible exact haulierref36_All.mono _ _)
      | (with_reducible exact move_All.mono _ _)
      | (with_reducible exact move_Nth.mono _ _ _)
      | (with_reducible exact LeO.refl _)
      | (with_reducible exact LeO.none _)
      | (with_reducible refine LeO.ite ?_ ?_)
      | (with_reducible refine LeO.bind ?_ (fun _ => ?_))
      | exact ih0 _ _ _ _ _ _
      | exact haulierlaw36_Light.mono _ _ _ _
      | exact haulierlaw36_alive.mono _
      | exact haulierref36_All.mono _ _
      | exact move_All.mono _ _
      | exact move_Nth.mono _ _ _
      | exact LeO.none _
      | refine LeO.ite ?_ ?_
      | refine LeO.bind ?_ (fun _ => ?_)
theorem haulierlaw36_MoveAll.mono : ∀ a0 a1 k, LeO (haulierlaw36_MoveAll.f k a0 a1) (haulierlaw36_MoveAll.f (k + 1) a0 a1) := by
  intro a0 a1 k
  have ih0 := haulierlaw36_MoveAll.mono_l k
  unfold haulierlaw36_MoveAll.f
  repeat' first
   | (with_reducible exact ih0 _ _ _ _ _ _)
   | (with_reducible exact haulierlaw36_Light.mono _ _ _ _)
   | (with_reducible exact haulierlaw36_alive.mono _)
   | (with_reducible exact haulierref36_All.mono _ _)
   | (with_reducible exact move_All.mono _ _)
   | (with_reducible exact move_Nth.mono _ _ _)
   | (with_reducible exact LeO.refl _)
   | (with_reducible exact LeO.none _)
   | (with_reducible refine LeO.ite ?_ ?_)
   | (with_reducible refine LeO.bind ?_ (fun _ => ?_))
   | exact ih0 _ _ _ _ _ _
   | exact haulierlaw36_Light.mono _ _ _ _
   | exact haulierlaw36_alive.mono _
   | exact haulierref36_All.mono _ _
   | exact move_All.mono _ _
   | exact move_Nth.mono _ _ _
   | exact LeO.none _
   | refine LeO.ite ?_ ?_
   | refine LeO.bind ?_ (fun _ => ?_)
def haulierlaw36_MoveAll.T9 : Bool × List (List Nat × List Nat) := (true, [([], []), ([], []), ([0, 1], [0, 1]), ([2], [2]), ([], []), ([], []), ([4, 5], [4, 5]), ([6], [6]), ([3, 7], [3, 7])])
def haulierlaw36_MoveAll.B9 : List Nat := [0, 0, 3, 7, 0, 0, 48, 112, 255]
theorem haulierlaw36_MoveAll.tab9 : rtab .any (opsOf Try.f7 9) = haulierlaw36_MoveAll.T9 := by kernel_rfl
theorem haulierlaw36_MoveAll.bits9 : waitsOk haulierlaw36_MoveAll.T9.2 haulierlaw36_MoveAll.B9 = true := by kernel_rfl
def haulierlaw36_MoveAll.T15 : Bool × List (List Nat × List Nat) := (true, [([], []), ([0], [0]), ([1], [1]), ([1], [1]), ([1], [1]), ([3, 4, 1], [1, 3, 4]), ([5, 1], [1, 5]), ([2, 6, 1], [1, 2, 6]), ([1, 7], [1, 7]), ([8, 1], [8]), ([9, 9], [9]), ([9, 10], [9, 10]), ([11, 10, 0, 1, 2, 3, 4, 5, 6, 7, 8, 9, 10, 11], [11])])
def haulierlaw36_MoveAll.B15 : List Nat := [0, 1, 3, 3, 3, 27, 59, 127, 255, 511, 1023, 2047, 4095]
theorem haulierlaw36_MoveAll.tab15 : rtab .any (opsOf Try.f7 15) = haulierlaw36_MoveAll.T15 := by kernel_rfl
theorem haulierlaw36_MoveAll.bits15 : waitsOk haulierlaw36_MoveAll.T15.2 haulierlaw36_MoveAll.B15 = true := by kernel_rfl
set_option maxHeartbeats 8000000 in
set_option maxRecDepth 100000 in
theorem haulierlaw36_MoveAll.calls (k : Nat) (A0 : Option Addr) (c0 : Nat) (l0 : List (S35)) (a1 : Int) (r : Bool) (w : World) (hr0 : Kd.C k35 w A0 l0.length l0) (hc0 : l0.length ≤ c0) (h : haulierlaw36_MoveAll.f k l0 a1 = some r) :
    Calls Try.prog 7 #[.slice A0 l0.length c0, .int .i64 a1] w fun e w' => e = .returned (.bool r) ∧ Below w.heap.size w w' := by
  have hu29 := Try.underlying29
  have hu24 := Try.underlying24
  have HR0 := Aside0.mk hr0
  have HC0 := Aside0.mk hc0
  clear hr0 hc0
  have HB := Aside0.mk (Below.refl w.heap.size w)
  have H : ((haulierlaw36_Light.f k l0 5 8).bind fun t385 => (if t385 = true then ((move_All.f k l0).bind fun t387 => ((haulierref36_All.f k l0).bind fun t390 => (if (t387.length : Int) = (t390.length : Int) then (haulierlaw36_MoveAll.l0 k l0 a1 t387 t390 (t387.length : Int) 0) else (none)))) else ((haulierlaw36_alive.f k).bind fun t386 => (some t386)))) = some r := h
  clear h
  replace H := Option.bind_eq_some_iff.mp H
  obtain ⟨t385, A30, H⟩ := H
  replace H : (if t385 = true then ((move_All.f k l0).bind fun t387 => ((haulierref36_All.f k l0).bind fun t390 => (if (t387.length : Int) = (t390.length : Int) then (haulierlaw36_MoveAll.l0 k l0 a1 t387 t390 (t387.length : Int) 0) else (none)))) else ((haulierlaw36_alive.f k).bind fun t386 => (some t386))) = some r := H
  have A3 := Aside0.mk A30
  clear A30
  by_cases c4 : t385 = true
  rotate_left
  ·replace c4 := Bool.eq_false_iff.mpr c4
   subst c4
   have H1 : ((haulierlaw36_alive.f k).bind fun t386 => (some t386)) = some r := by rw [if_neg (show ¬ (false = true) by decide)] at H; exact H
   clear H
   have H := H1
   clear H1
   replace H := Option.bind_eq_some_iff.mp H
   obtain ⟨t386, A470, H⟩ := H
   replace H : (some t386) = some r := H
   have A47 := Aside0.mk A470
   clear A470
   obtain rfl := Option.some.inj H
   go_enter Try.func7, Try.ntmps7
   go_wp2_with (first | ((with_reducible refine gate_callee (f := 8) rfl ?_); refine goesL_ (some 11) rfl rfl Try.func8 (by kernel_rfl) rfl #[.slice A0 l0.length c0, .int .i64 5, .int .i64 8] rfl (by (try simp only [List.map_toArray, List.map_cons, List.map_nil]); first | done | rfl | (simp only [List.length_drop, List.length_take]; rfl)) ?_; (with_reducible refine (haulierlaw36_Light.calls k _ _ l0 5 8 false _ ?side1 ?side2 A3.out).mono ?_); (case side1 => repeat (first | exact HR0.out | (with_reducible refine Kd.C_alloc ?_ _) | (with_reducible refine Kd.C_drewN ?_ _) | (with_reducible refine Kd.C_drew ?_))); (case side2 => exact HC0.out); rintro e w48 ⟨rfl, hb⟩; refine ⟨_, rfl, ?_⟩; have n0_ := Aside0.mk (below_step (by repeat (first | (with_reducible first | exact HB.out | apply below_alloc | apply pw_below_drewN | apply below_drew1) | exact HB.out)) hb); clear HB; have HB := n0_; clear n0_; (try clear hb); (try clear hb2); (try clear hk); (try clear hi)) | ((with_reducible refine gate_callee (f := 9) rfl ?_); refine goesL_ (some 13) rfl rfl Try.func9 (by kernel_rfl) rfl #[] rfl (by (try simp only [List.map_toArray, List.map_cons, List.map_nil]); first | done | rfl | (simp only [List.length_drop, List.length_take]; rfl)) ?_; (with_reducible refine (haulierlaw36_alive.calls k  t386 _ A47.out).mono ?_); rintro e w49 ⟨rfl, hb⟩; refine ⟨_, rfl, ?_⟩; have n0_ := Aside0.mk (below_step (by repeat (first | (with_reducible first | exact HB.out | apply below_alloc | apply pw_below_drewN | apply below_drew1) | exact HB.out)) hb); clear HB; have HB := n0_; clear n0_; (try clear hb); (try clear hb2); (try clear hk); (try clear hi)))
   go_ret
   exact ⟨by first | rfl | (simp [errW_none, errW_some] <;> rfl) | (simp [*, errW_none, errW_some] <;> rfl), by repeat (first | (with_reducible first | exact HB.out | apply below_alloc | apply pw_below_drewN | apply below_drew1) | exact HB.out)⟩
  subst c4
  have H1 : ((move_All.f k l0).bind fun t387 => ((haulierref36_All.f k l0).bind fun t390 => (if (t387.length : Int) = (t390.length : Int) then (haulierlaw36_MoveAll.l0 k l0 a1 t387 t390 (t387.length : Int) 0) else (none)))) = some r := by rw [if_pos rfl] at H; exact H
  clear H
  have H := H1
  clear H1
  replace H := Option.bind_eq_some_iff.mp H
  obtain ⟨t387, A50, H⟩ := H
  replace H : ((haulierref36_All.f k l0).bind fun t390 => (if (t387.length : Int) = (t390.length : Int) then (haulierlaw36_MoveAll.l0 k l0 a1 t387 t390 (t387.length : Int) 0) else (none))) = some r := H
  have A5 := Aside0.mk A50
  clear A50
  replace H := Option.bind_eq_some_iff.mp H
  obtain ⟨t390, A60, H⟩ := H
  replace H : (if (t387.length : Int) = (t390.length : Int) then (haulierlaw36_MoveAll.l0 k l0 a1 t387 t390 (t387.length : Int) 0) else (none)) = some r := H
  have A6 := Aside0.mk A60
  clear A60
  by_cases c7 : (t387.length : Int) = (t390.length : Int)
  rotate_left
  ·rw [if_neg c7] at H
   exact absurd H (by simp)
  rw [if_pos c7] at H
  have c7b0 : ((t387.length : Int) == (t390.length : Int)) = true := beq_iff_eq.mpr c7
  have c7b1 : ((t387.length : Int) != (t390.length : Int)) = false := bne_eq_false_iff_eq.mpr c7
  have c7b2 : (t387.length == t390.length) = true := by first | simpa using c7 | (simp at c7 ⊢; omega)
  clear c7
  have H' := Aside0.mk H
  clear H
  go_enter Try.func7, Try.ntmps7
  go_wp2_with (first | ((with_reducible refine gate_callee (f := 8) rfl ?_); refine goesL_ (some 11) rfl rfl Try.func8 (by kernel_rfl) rfl #[.slice A0 l0.length c0, .int .i64 5, .int .i64 8] rfl (by (try simp only [List.map_toArray, List.map_cons, List.map_nil]); first | done | rfl | (simp only [List.length_drop, List.length_take]; rfl)) ?_; (with_reducible refine (haulierlaw36_Light.calls k _ _ l0 5 8 true _ ?side1 ?side2 A3.out).mono ?_); (case side1 => repeat (first | exact HR0.out | (with_reducible refine Kd.C_alloc ?_ _) | (with_reducible refine Kd.C_drewN ?_ _) | (with_reducible refine Kd.C_drew ?_))); (case side2 => exact HC0.out); rintro e w8 ⟨rfl, hb⟩; refine ⟨_, rfl, ?_⟩; have n0_ := Aside0.mk (below_step (by repeat (first | (with_reducible first | exact HB.out | apply below_alloc | apply pw_below_drewN | apply below_drew1) | exact HB.out)) hb); clear HB; have HB := n0_; clear n0_; (try clear hb); (try clear hb2); (try clear hk); (try clear hi)) | ((with_reducible refine gate_callee (f := 17) rfl ?_); refine goesL_ (some 15) rfl rfl Try.func17 (by kernel_rfl) rfl #[.slice A0 l0.length c0] rfl (by (try simp only [List.map_toArray, List.map_cons, List.map_nil]); first | done | rfl | (simp only [List.length_drop, List.length_take]; rfl)) ?_; (with_reducible refine (move_All.calls k _ _ l0 t387 _ ?side1 ?side2 A5.out).mono ?_); (case side1 => repeat (first | exact (Kd.C_below HR0.out HB.out) | (with_reducible refine Kd.C_alloc ?_ _) | (with_reducible refine Kd.C_drewN ?_ _) | (with_reducible refine Kd.C_drew ?_))); (case side2 => exact HC0.out); rintro e w9 ⟨v388, rfl, ho0, hb⟩; refine ⟨_, rfl, ?_⟩; have n0_ := Aside0.mk (Kd.R_lower ho0 (below_size (by repeat (first | (with_reducible first | exact HB.out | apply below_alloc | apply pw_below_drewN | apply below_drew1) | exact HB.out)))); have n1_ := Aside0.mk (below_step (by repeat (first | (with_reducible first | exact HB.out | apply below_alloc | apply pw_below_drewN | apply below_drew1) | exact HB.out)) hb); clear HB; have HO389 := n0_; have HB := n1_; clear n0_ n1_; (try clear hb); (try clear hb2); (try clear hk); (try clear hi); (try clear ho0)) | ((with_reducible refine gate_callee (f := 18) rfl ?_); refine goesL_ (some 17) rfl rfl Try.func18 (by kernel_rfl) rfl #[.slice A0 l0.length c0] rfl (by (try simp only [List.map_toArray, List.map_cons, List.map_nil]); first | done | rfl | (simp only [List.length_drop, List.length_take]; rfl)) ?_; (with_reducible refine (haulierref36_All.calls k _ _ l0 t390 _ ?side1 ?side2 A6.out).mono ?_); (case side1 => repeat (first | exact (Kd.C_below HR0.out HB.out) | (with_reducible refine Kd.C_alloc ?_ _) | (with_reducible refine Kd.C_drewN ?_ _) | (with_reducible refine Kd.C_drew ?_))); (case side2 => exact HC0.out); rintro e w10 ⟨v391, rfl, ho0, hb⟩; refine ⟨_, rfl, ?_⟩; have n0_ := Aside0.mk (Kd.R_below (by (with_reducible repeat (first | apply Kd.R_alloc | apply Kd.R_drewN | apply Kd.R_drew)); exact HO389.out) hb); have n1_ := Aside0.mk (Kd.R_lower ho0 (below_size (by repeat (first | (with_reducible first | exact HB.out | apply below_alloc | apply pw_below_drewN | apply below_drew1) | exact HB.out)))); have n2_ := Aside0.mk (below_step (by repeat (first | (with_reducible first | exact HB.out | apply below_alloc | apply pw_below_drewN | apply below_drew1) | exact HB.out)) hb); clear HO389; clear HB; have HO389 := n0_; have HO392 := n1_; have HB := n2_; clear n0_ n1_ n2_; (try clear hb); (try clear hb2); (try clear hk); (try clear hi); (try clear ho0); obtain ⟨Ao11, co11, eo11⟩ := Kd.R_slice HO389.out; subst eo11; obtain ⟨Ao12, co12, eo12⟩ := Kd.R_slice HO392.out; subst eo12))
  go_loopg [25] k (fun kq v25 w' => ∃ (x25_1 : Int), v25 = .int .i64 x25_1 ∧ Aside0 (haulierlaw36_MoveAll.l0 kq l0 a1 t387 t390 (t387.length : Int) x25_1 = some r) ∧ Aside0 (kq ≤ k) ∧ Aside0 (Kd.R k29 29 w' w.heap.size (fun _ => True) (.slice Ao11 t387.length co11) t387) ∧ Aside0 (Kd.R k24 24 w' w.heap.size (fun _ => True) (.slice Ao12 t390.length co12) t390) ∧ Aside0 (Below w.heap.size w w'))
  case atStart => exact ⟨(0), (by first | rfl | (simp; done) | (simp [*]; done)), H', ⟨Nat.le_refl _⟩, ⟨by (with_reducible repeat (first | apply Kd.R_alloc | apply Kd.R_drewN | apply Kd.R_drew)); exact HO389.out⟩, ⟨by (with_reducible repeat (first | apply Kd.R_alloc | apply Kd.R_drewN | apply Kd.R_drew)); exact HO392.out⟩, ⟨by repeat (first | (with_reducible first | exact HB.out | apply below_alloc | apply pw_below_drewN | apply below_drew1) | exact HB.out)⟩⟩
  case round =>
   clear H'
   try clear c1; try clear p2; try clear c4; try clear c7; try clear c7b0; try clear c7b1; try clear c7b2; try clear c8
   obtain ⟨x25_1, rfl, HA, HK1, HO_5, HO_6, HB⟩ := hrel
   cases gk with
   | zero => exact absurd HA.out (by simp [haulierlaw36_MoveAll.l0])
   | succ k1 =>
    have H := HA.out
    clear HA
    simp only [haulierlaw36_MoveAll.l0] at H
    by_cases c13 : x25_1 < (t387.length : Int)
    ·rw [if_pos c13] at H
     have c13b0 : decide (x25_1 < (t387.length : Int)) = true := decide_eq_true c13
     clear c13
     by_cases c14 : 0 ≤ x25_1
     rotate_left
     ·rw [if_neg c14] at H
      exact absurd H (by simp)
     rw [if_pos c14] at H
     have c14b0 : decide (0 ≤ x25_1) = true := decide_eq_true c14
     clear c14
     by_cases c15 : x25_1 < (t387.length : Int)
     rotate_left
     ·rw [if_neg c15] at H
      exact absurd H (by simp)
     rw [if_pos c15] at H
     have c15b0 : decide (x25_1 < (t387.length : Int)) = true := decide_eq_true c15
     clear c15
     by_cases c16 : x25_1 < (t390.length : Int)
     rotate_left
     ·rw [if_neg c16] at H
      exact absurd H (by simp)
     rw [if_pos c16] at H
     have c16b0 : decide (x25_1 < (t390.length : Int)) = true := decide_eq_true c16
     clear c16
     by_cases c17 : (!(((rd_T29 t387 x25_1).f0) == ((rd_T24 t390 x25_1).f0)) || (!(((rd_T29 t387 x25_1).f1) == ((rd_T24 t390 x25_1).f1)) || (!(((rd_T29 t387 x25_1).f2) == ((rd_T24 t390 x25_1).f2)) || (!(((rd_T29 t387 x25_1).f3) == ((rd_T24 t390 x25_1).f3)) || (!(((rd_T29 t387 x25_1).f4) == ((rd_T24 t390 x25_1).f4)) || (!(((rd_T29 t387 x25_1).f5) == ((rd_T24 t390 x25_1).f5)))))))) = true
     ·rw [if_pos c17] at H
      exact absurd H (by simp)
     rw [if_neg c17] at H
     have c17b0 : (!(((rd_T29 t387 x25_1).f0) == ((rd_T24 t390 x25_1).f0)) || (!(((rd_T29 t387 x25_1).f1) == ((rd_T24 t390 x25_1).f1)) || (!(((rd_T29 t387 x25_1).f2) == ((rd_T24 t390 x25_1).f2)) || (!(((rd_T29 t387 x25_1).f3) == ((rd_T24 t390 x25_1).f3)) || (!(((rd_T29 t387 x25_1).f4) == ((rd_T24 t390 x25_1).f4)) || (!(((rd_T29 t387 x25_1).f5) == ((rd_T24 t390 x25_1).f5)))))))) = false := by simpa using c17
     clear c17
     have H' := Aside0.mk H
     clear H
     try go_wp2
     have n0_ := Aside0.mk (Kd.R_drew HO_5.out)
     have n1_ := Aside0.mk (Kd.R_drew HO_6.out)
     have n2_ := Aside0.mk (below_drew1 HB.out)
     clear HO_5 HO_6 HB
     have HO_5 := n0_; have HO_6 := n1_; have HB := n2_
     clear n0_ n1_ n2_
     have p393 : 0 ≤ (x25_1 : Int) := of_decide_eq_true (by first | (with_reducible assumption) | assumption)
     have q393 : x25_1 < (t387.length : Int) := of_decide_eq_true (by first | (with_reducible assumption) | assumption)
     obtain ⟨ad393, e393, hx393_0, hx393_1, hx393_2, hx393_3, hx393_4, hx393_5⟩ := at_T29 (Kd.R_reads' HO_5.out).2.2 x25_1 p393 q393
     cases e393
     replace p393 := eq_true p393
     replace q393 := eq_true q393
     have p394 : 0 ≤ (x25_1 : Int) := of_decide_eq_true (by first | (with_reducible assumption) | assumption)
     have q394 : x25_1 < (t390.length : Int) := of_decide_eq_true (by first | (with_reducible assumption) | assumption)
     obtain ⟨ad394, e394, hx394_0, hx394_1, hx394_2, hx394_3, hx394_4, hx394_5⟩ := at_T24 (Kd.R_reads' HO_6.out).2.2 x25_1 p394 q394
     cases e394
     replace p394 := eq_true p394
     replace q394 := eq_true q394
     refine start_ (n := 9) (S := fun w' => w'.cell? (ad393.add ((x25_1).toNat * 6)) = some (.int .i64 ((rd_T29 t387 x25_1).f0)) ∧ w'.cell? ⟨(ad393.add ((x25_1).toNat * 6)).block, (ad393.add ((x25_1).toNat * 6)).off + 1, none⟩ = some (.int .i64 ((rd_T29 t387 x25_1).f1)) ∧ w'.cell? ⟨(ad393.add ((x25_1).toNat * 6)).block, (ad393.add ((x25_1).toNat * 6)).off + 2, none⟩ = some (.int .i64 ((rd_T29 t387 x25_1).f2)) ∧ w'.cell? ⟨(ad393.add ((x25_1).toNat * 6)).block, (ad393.add ((x25_1).toNat * 6)).off + 3, none⟩ = some (.int .i64 ((rd_T29 t387 x25_1).f3)) ∧ w'.cell? ⟨(ad393.add ((x25_1).toNat * 6)).block, (ad393.add ((x25_1).toNat * 6)).off + 4, none⟩ = some (.int .i64 ((rd_T29 t387 x25_1).f4)) ∧ w'.cell? ⟨(ad393.add ((x25_1).toNat * 6)).block, (ad393.add ((x25_1).toNat * 6)).off + 5, none⟩ = some (.int .i64 ((rd_T29 t387 x25_1).f5)) ∧ w'.cell? (ad394.add ((x25_1).toNat * 6)) = some (.int .i64 ((rd_T24 t390 x25_1).f0)) ∧ w'.cell? ⟨(ad394.add ((x25_1).toNat * 6)).block, (ad394.add ((x25_1).toNat * 6)).off + 1, none⟩ = some (.int .i64 ((rd_T24 t390 x25_1).f1)) ∧ w'.cell? ⟨(ad394.add ((x25_1).toNat * 6)).block, (ad394.add ((x25_1).toNat * 6)).off + 2, none⟩ = some (.int .i64 ((rd_T24 t390 x25_1).f2)) ∧ w'.cell? ⟨(ad394.add ((x25_1).toNat * 6)).block, (ad394.add ((x25_1).toNat * 6)).off + 3, none⟩ = some (.int .i64 ((rd_T24 t390 x25_1).f3)) ∧ w'.cell? ⟨(ad394.add ((x25_1).toNat * 6)).block, (ad394.add ((x25_1).toNat * 6)).off + 4, none⟩ = some (.int .i64 ((rd_T24 t390 x25_1).f4)) ∧ w'.cell? ⟨(ad394.add ((x25_1).toNat * 6)).block, (ad394.add ((x25_1).toNat * 6)).off + 5, none⟩ = some (.int .i64 ((rd_T24 t390 x25_1).f5))) (ds := []) #[false, false, false, false, false, false, false, false, false] (by kernel_rfl) rfl rfl ⟨hx393_0, hx393_1, hx393_2, hx393_3, hx393_4, hx393_5, hx394_0, hx394_1, hx394_2, hx394_3, hx394_4, hx394_5⟩ (fun hHeld => ?_); refine with_tabW haulierlaw36_MoveAll.tab9 haulierlaw36_MoveAll.bits9 (fun HT_ HW_ => ?_)
     generalize wr.drew = w18 at HO_5 HO_6 HB hx393_0 hx393_1 hx393_2 hx393_3 hx393_4 hx393_5 hx394_0 hx394_1 hx394_2 hx394_3 hx394_4 hx394_5 hHeld ⊢
     refine pure_ (i := 0) (N := some 28) (v := ?_) (a' := ?_) #[true, false, false, false, false, false, false, false, false] rfl rfl (any_of HT_.out (by kernel_rfl)) (fun _ _ _ h => h) (Or.inl ⟨by rfl, ?_⟩) ?_ ?_
     rotate_left
     ·intro w'
      go_simp
      with_reducible rfl
     rotate_left
     ·simp only [Act.put, List.setIfInBounds_toArray, List.set_cons_zero, List.set_cons_succ, i64_w, i32_w]
      rfl
     refine pure_ (i := 1) (N := some 29) (v := ?_) (a' := ?_) #[true, true, false, false, false, false, false, false, false] rfl rfl (any_of HT_.out (by kernel_rfl)) (fun _ _ _ h => h) (Or.inl ⟨by rfl, ?_⟩) ?_ ?_
     rotate_left
     ·intro w'
      go_simp
      with_reducible rfl
     rotate_left
     ·simp only [Act.put, List.setIfInBounds_toArray, List.set_cons_zero, List.set_cons_succ, i64_w, i32_w]
      rfl
     refine pure_ (i := 2) (N := some 30) (v := ?_) (a' := ?_) #[true, true, true, false, false, false, false, false, false] rfl rfl (any_of HT_.out (by kernel_rfl)) (fun _ _ _ h => h) (Or.inl ⟨by rfl, ?_⟩) ?_ ?_
     rotate_left
     ·intro w'
      go_simp
      with_reducible rfl
     rotate_left
     ·simp only [Act.put, List.setIfInBounds_toArray, List.set_cons_zero, List.set_cons_succ, i64_w, i32_w]
      rfl
     refine pure_ (i := 4) (N := some 32) (v := ?_) (a' := ?_) #[true, true, true, false, true, false, false, false, false] rfl rfl (any_of HT_.out (by kernel_rfl)) (fun _ _ _ h => h) (Or.inl ⟨by rfl, ?_⟩) ?_ ?_
     rotate_left
     ·intro w'
      go_simp
      with_reducible rfl
     rotate_left
     ·simp only [Act.put, List.setIfInBounds_toArray, List.set_cons_zero, List.set_cons_succ, i64_w, i32_w]
      rfl
     refine pure_ (i := 5) (N := some 33) (v := ?_) (a' := ?_) #[true, true, true, false, true, true, false, false, false] rfl rfl (any_of HT_.out (by kernel_rfl)) (fun _ _ _ h => h) (Or.inl ⟨by rfl, ?_⟩) ?_ ?_
     rotate_left
     ·intro w'
      go_simp
      with_reducible rfl
     rotate_left
     ·simp only [Act.put, List.setIfInBounds_toArray, List.set_cons_zero, List.set_cons_succ, i64_w, i32_w]
      rfl
     refine pure_ (i := 6) (N := some 34) (v := ?_) (a' := ?_) #[true, true, true, false, true, true, true, false, false] rfl rfl (any_of HT_.out (by kernel_rfl)) (fun _ _ _ h => h) (Or.inl ⟨by rfl, ?_⟩) ?_ ?_
     rotate_left
     ·intro w'
      go_simp
      with_reducible rfl
     rotate_left
     ·simp only [Act.put, List.setIfInBounds_toArray, List.set_cons_zero, List.set_cons_succ, i64_w, i32_w]
      rfl
     refine take_ (i := 3) (N := some 31) (v := ?_) (a' := ?_) #[true, true, true, true, true, true, true, false, false] rfl rfl (take_ofW HT_.out HW_.out (by kernel_rfl)) (fun _ _ _ h => h) (Or.inl ⟨by rfl, ?_⟩) hHeld ?_ ?_
     rotate_left
     ·rintro w' ⟨s0, s1, s2, s3, s4, s5, s6, s7, s8, s9, s10, s11⟩
      go_simp
      with_reducible rfl
     rotate_left
     ·simp only [Act.put, List.setIfInBounds_toArray, List.set_cons_zero, List.set_cons_succ, i64_w, i32_w]
      rfl
     refine take_ (i := 7) (N := some 35) (v := ?_) (a' := ?_) #[true, true, true, true, true, true, true, true, false] rfl rfl (take_ofW HT_.out HW_.out (by kernel_rfl)) (fun _ _ _ h => h) (Or.inl ⟨by rfl, ?_⟩) hHeld ?_ ?_
     rotate_left
     ·rintro w' ⟨s0, s1, s2, s3, s4, s5, s6, s7, s8, s9, s10, s11⟩
      go_simp
      with_reducible rfl
     rotate_left
     ·simp only [Act.put, List.setIfInBounds_toArray, List.set_cons_zero, List.set_cons_succ, i64_w, i32_w]
      rfl
     refine pure_ (i := 8) (N := some 36) (v := ?_) (a' := ?_) #[true, true, true, true, true, true, true, true, true] rfl rfl (any_of HT_.out (by kernel_rfl)) (fun _ _ _ h => h) (Or.inl ⟨by rfl, ?_⟩) ?_ ?_
     rotate_left
     ·intro w'
      go_simp
      with_reducible rfl
     rotate_left
     ·simp only [Act.put, List.setIfInBounds_toArray, List.set_cons_zero, List.set_cons_succ, i64_w, i32_w]
      rfl
     refine done_ (done_of HT_.out (by kernel_rfl)) ?_
     try go_wp2
     go_roundg k1
     case measure => have := HK1.out; omega
     case rel => exact ⟨(wrap64 (x25_1 + 1)), (by first | rfl | (simp; done) | (simp [*]; done)), H', ⟨by have := HK1.out; omega⟩, ⟨by (with_reducible repeat (first | apply Kd.R_alloc | apply Kd.R_drewN | apply Kd.R_drew)); exact HO_5.out⟩, ⟨by (with_reducible repeat (first | apply Kd.R_alloc | apply Kd.R_drewN | apply Kd.R_drew)); exact HO_6.out⟩, ⟨by repeat (first | (with_reducible first | exact HB.out | apply below_alloc | apply pw_below_drewN | apply below_drew1) | exact HB.out)⟩⟩
    rw [if_neg c13] at H
    have c13b0 : decide (x25_1 < (t387.length : Int)) = false := decide_eq_false c13
    clear c13
    replace H := Option.bind_eq_some_iff.mp H
    obtain ⟨⟨t395, t396, t397, t398, t399, t400, t401⟩, A190, H⟩ := H
    replace H : (if a1 < 0 then (if t401 = true then (none) else (if (t395 == 0 && (t396 == 0 && (t397 == 0 && (t398 == 0 && (t399 == 0 && (t400 == 0)))))) = true then ((haulierlaw36_alive.f k1).bind fun t403 => (some t403)) else (none))) else (if a1 ≥ (t390.length : Int) then (if t401 = true then (none) else (if (t395 == 0 && (t396 == 0 && (t397 == 0 && (t398 == 0 && (t399 == 0 && (t400 == 0)))))) = true then ((haulierlaw36_alive.f k1).bind fun t404 => (some t404)) else (none))) else (if t401 = true then (if 0 ≤ a1 then (if a1 < (t390.length : Int) then (if (t395 == ((rd_T24 t390 a1).f0) && (t396 == ((rd_T24 t390 a1).f1) && (t397 == ((rd_T24 t390 a1).f2) && (t398 == ((rd_T24 t390 a1).f3) && (t399 == ((rd_T24 t390 a1).f4) && (t400 == ((rd_T24 t390 a1).f5))))))) = true then ((haulierlaw36_alive.f k1).bind fun t406 => (some t406)) else (none)) else (none)) else (none)) else (none)))) = some r := H
    have A19 := Aside0.mk A190
    clear A190
    by_cases c20 : a1 < 0
    ·rw [if_pos c20] at H
     have c20b0 : decide (a1 < 0) = true := decide_eq_true c20
     clear c20
     by_cases c21 : t401 = true
     ·subst c21
      have H1 : (none) = some r := by rw [if_pos rfl] at H; exact H
      clear H
      have H := H1
      clear H1
      exact absurd H (by simp)
     replace c21 := Bool.eq_false_iff.mpr c21
     subst c21
     have H1 : (if (t395 == 0 && (t396 == 0 && (t397 == 0 && (t398 == 0 && (t399 == 0 && (t400 == 0)))))) = true then ((haulierlaw36_alive.f k1).bind fun t403 => (some t403)) else (none)) = some r := by rw [if_neg (show ¬ (false = true) by decide)] at H; exact H
     clear H
     have H := H1
     clear H1
     by_cases c22 : (t395 == 0 && (t396 == 0 && (t397 == 0 && (t398 == 0 && (t399 == 0 && (t400 == 0)))))) = true
     rotate_left
     ·rw [if_neg c22] at H
      exact absurd H (by simp)
     rw [if_pos c22] at H
     have c22b0 : (t395 == 0 && (t396 == 0 && (t397 == 0 && (t398 == 0 && (t399 == 0 && (t400 == 0)))))) = true := c22
     (try (have c22b1 : decide (t395 = 0 && (t396 == 0 && (t397 == 0 && (t398 == 0 && (t399 == 0 && (t400 == 0)))))) = true := by simpa using c22))
     (try (have c22b2 : (t395 == 0 && (t396 == 0 && (t397 == 0 && (t398 == 0 && (t399 == 0 && (t400 == 0)))))) = true := by simpa using c22))
     clear c22
     replace H := Option.bind_eq_some_iff.mp H
     obtain ⟨t403, A230, H⟩ := H
     replace H : (some t403) = some r := H
     have A23 := Aside0.mk A230
     clear A230
     obtain rfl := Option.some.inj H
     go_wp2_with (first | ((with_reducible refine gate_callee (f := 19) rfl ?_); refine goesL_ (some 41) rfl rfl Try.func19 (by kernel_rfl) rfl #[.slice A0 l0.length c0, .int .i64 a1] rfl (by (try simp only [List.map_toArray, List.map_cons, List.map_nil]); first | done | rfl | (simp only [List.length_drop, List.length_take]; rfl)) ?_; (with_reducible refine (move_Nth.calls k1 _ _ l0 a1 t395 t396 t397 t398 t399 t400 false _ ?side1 ?side2 A19.out).mono ?_); (case side1 => repeat (first | exact (Kd.C_below HR0.out HB.out) | (with_reducible refine Kd.C_alloc ?_ _) | (with_reducible refine Kd.C_drewN ?_ _) | (with_reducible refine Kd.C_drew ?_))); (case side2 => exact HC0.out); rintro e w24 ⟨rfl, hb⟩; refine ⟨_, rfl, ?_⟩; have n0_ := Aside0.mk (Kd.R_below (by (with_reducible repeat (first | apply Kd.R_alloc | apply Kd.R_drewN | apply Kd.R_drew)); exact HO_5.out) hb); have n1_ := Aside0.mk (Kd.R_below (by (with_reducible repeat (first | apply Kd.R_alloc | apply Kd.R_drewN | apply Kd.R_drew)); exact HO_6.out) hb); have n2_ := Aside0.mk (below_step (by repeat (first | (with_reducible first | exact HB.out | apply below_alloc | apply pw_below_drewN | apply below_drew1) | exact HB.out)) hb); clear HO_5; clear HO_6; clear HB; have HO_5 := n0_; have HO_6 := n1_; have HB := n2_; clear n0_ n1_ n2_; (try clear hb); (try clear hb2); (try clear hk); (try clear hi)) | ((with_reducible refine gate_dst (N := 8) rfl ?_); (try (refine gate_guard (by rfl) ?_; dsimp only)); refine box_event ?hg (N := 8) ?hd (cs := #[.int .i64 0, .int .i64 0, .int .i64 0, .int .i64 0, .int .i64 0, .int .i64 0]) (t := 29) ?hr ?_; (case hd => rfl); (case hg => rfl); (case hr => first | (go_simp; done) | (go_simp; rfl)); intro gb402 hg w25 hbox hb; have n0_ := Aside0.mk (Kd.R_below (Kd.R_elderB (by (with_reducible repeat (first | apply Kd.R_alloc | apply Kd.R_drewN | apply Kd.R_drew)); exact HO_5.out) gb402 (Nat.le_of_eq hg.symm)) hb); have n1_ := Aside0.mk (Kd.R_below (by (with_reducible repeat (first | apply Kd.R_alloc | apply Kd.R_drewN | apply Kd.R_drew)); exact HO_6.out) hb); have n2_ := Aside0.mk (below_step (by repeat (first | (with_reducible first | exact HB.out | apply below_alloc | apply pw_below_drewN | apply below_drew1) | exact HB.out)) hb); have n3_ := Aside0.mk (hbox); have n4_ := Aside0.mk ((by rw [hg]; exact (below_size (by repeat (first | (with_reducible first | exact HB.out | apply below_alloc | apply pw_below_drewN | apply below_drew1) | exact HB.out))) : w.heap.size ≤ gb402)); have n5_ := Aside0.mk ((by rw [hg]; exact (below_size (by repeat (first | (with_reducible first | exact HB.out | apply below_alloc | apply pw_below_drewN | apply below_drew1) | exact HB.out))) : w.heap.size ≤ gb402)); clear HO_5; clear HO_6; clear HB; have HO_5 := n0_; have HO_6 := n1_; have HB := n2_; have BK402 := n3_; have GW402 := n4_; have GE402 := n5_; clear n0_ n1_ n2_ n3_ n4_ n5_; clear hb hbox hg; have hcz26_0 : w25.cell? ⟨gb402, 0, none⟩ = some (.int .i64 0) := (blk_cell BK402.out 0).trans rfl; have hcz26_1 : w25.cell? ⟨gb402, 1, none⟩ = some (.int .i64 0) := (blk_cell BK402.out 1).trans rfl; have hcz26_2 : w25.cell? ⟨gb402, 2, none⟩ = some (.int .i64 0) := (blk_cell BK402.out 2).trans rfl; have hcz26_3 : w25.cell? ⟨gb402, 3, none⟩ = some (.int .i64 0) := (blk_cell BK402.out 3).trans rfl; have hcz26_4 : w25.cell? ⟨gb402, 4, none⟩ = some (.int .i64 0) := (blk_cell BK402.out 4).trans rfl; have hcz26_5 : w25.cell? ⟨gb402, 5, none⟩ = some (.int .i64 0) := (blk_cell BK402.out 5).trans rfl; have hfz26_0 := blk_frozen BK402.out 0; have hfz26_1 := blk_frozen BK402.out 1; have hfz26_2 := blk_frozen BK402.out 2; have hfz26_3 := blk_frozen BK402.out 3; have hfz26_4 := blk_frozen BK402.out 4; have hfz26_5 := blk_frozen BK402.out 5) | (go_at_call 9; (with_reducible refine (haulierlaw36_alive.calls k1  t403 _ A23.out).mono ?_); rintro e w27 ⟨rfl, hb⟩; have n0_ := Aside0.mk (Kd.R_below (by (with_reducible repeat (first | apply Kd.R_alloc | apply Kd.R_drewN | apply Kd.R_drew)); exact (Kd.R_mono (Kd.R_far (p := ⟨gb402, 5, none⟩) (Kd.R_far (p := ⟨gb402, 4, none⟩) (Kd.R_far (p := ⟨gb402, 3, none⟩) (Kd.R_far (p := ⟨gb402, 2, none⟩) (Kd.R_far (p := ⟨gb402, 1, none⟩) (Kd.R_far (p := ⟨gb402, 0, none⟩) (Kd.R_mono HO_5.out (fun k_ hk => (⟨hk, hk.2⟩ : _ ∧ k_ ≠ gb402))) (fun _ hk => hk.2) (.int .i64 t395)) (fun _ hk => hk.2) (.int .i64 t396)) (fun _ hk => hk.2) (.int .i64 t397)) (fun _ hk => hk.2) (.int .i64 t398)) (fun _ hk => hk.2) (.int .i64 t399)) (fun _ hk => hk.2) (.int .i64 t400)) (fun _ h_ => h_.1))) hb); have n1_ := Aside0.mk (Kd.R_below (by (with_reducible repeat (first | apply Kd.R_alloc | apply Kd.R_drewN | apply Kd.R_drew)); exact (Kd.R_mono (Kd.R_far (p := ⟨gb402, 5, none⟩) (Kd.R_far (p := ⟨gb402, 4, none⟩) (Kd.R_far (p := ⟨gb402, 3, none⟩) (Kd.R_far (p := ⟨gb402, 2, none⟩) (Kd.R_far (p := ⟨gb402, 1, none⟩) (Kd.R_far (p := ⟨gb402, 0, none⟩) (Kd.R_types HO_6.out BK402.out (by decide)) (fun _ hk => hk.2) (.int .i64 t395)) (fun _ hk => hk.2) (.int .i64 t396)) (fun _ hk => hk.2) (.int .i64 t397)) (fun _ hk => hk.2) (.int .i64 t398)) (fun _ hk => hk.2) (.int .i64 t399)) (fun _ hk => hk.2) (.int .i64 t400)) (fun _ h_ => h_.1))) hb); have n2_ := Aside0.mk (blk_below (g := gb402) (o := .cells #[.int .i64 t395, .int .i64 t396, .int .i64 t397, .int .i64 t398, .int .i64 t399, .int .i64 t400] 29 (0, 0)) (by (with_reducible repeat (first | refine blk_drewN ?_ _ | refine blk_drew ?_ | refine blk_alloc ?_ _)); refine blk_put (cs := #[.int .i64 t395, .int .i64 t396, .int .i64 t397, .int .i64 t398, .int .i64 t399, .int .i64 0]) ?_ 5 _ rfl; (with_reducible repeat (first | refine blk_drewN ?_ _ | refine blk_drew ?_ | refine blk_alloc ?_ _)); refine blk_put (cs := #[.int .i64 t395, .int .i64 t396, .int .i64 t397, .int .i64 t398, .int .i64 0, .int .i64 0]) ?_ 4 _ rfl; (with_reducible repeat (first | refine blk_drewN ?_ _ | refine blk_drew ?_ | refine blk_alloc ?_ _)); refine blk_put (cs := #[.int .i64 t395, .int .i64 t396, .int .i64 t397, .int .i64 0, .int .i64 0, .int .i64 0]) ?_ 3 _ rfl; (with_reducible repeat (first | refine blk_drewN ?_ _ | refine blk_drew ?_ | refine blk_alloc ?_ _)); refine blk_put (cs := #[.int .i64 t395, .int .i64 t396, .int .i64 0, .int .i64 0, .int .i64 0, .int .i64 0]) ?_ 2 _ rfl; (with_reducible repeat (first | refine blk_drewN ?_ _ | refine blk_drew ?_ | refine blk_alloc ?_ _)); refine blk_put (cs := #[.int .i64 t395, .int .i64 0, .int .i64 0, .int .i64 0, .int .i64 0, .int .i64 0]) ?_ 1 _ rfl; (with_reducible repeat (first | refine blk_drewN ?_ _ | refine blk_drew ?_ | refine blk_alloc ?_ _)); refine blk_put (cs := #[.int .i64 0, .int .i64 0, .int .i64 0, .int .i64 0, .int .i64 0, .int .i64 0]) ?_ 0 _ rfl; (with_reducible repeat (first | refine blk_drewN ?_ _ | refine blk_drew ?_ | refine blk_alloc ?_ _)); exact BK402.out) hb); have n3_ := Aside0.mk (below_step (by repeat (first | (with_reducible first | exact HB.out | apply below_alloc | apply pw_below_drewN | apply below_drew1 | refine below_set ?_ GE402.out) | exact HB.out)) hb); clear HO_5; clear HO_6; clear BK402; clear HB; have HO_5 := n0_; have HO_6 := n1_; have BK402 := n2_; have HB := n3_; clear n0_ n1_ n2_ n3_; (try clear hb); (try clear hb2); (try clear hk); (try clear hi)))
     go_ret
     exact ⟨by first | rfl | (simp [errW_none, errW_some] <;> rfl) | (simp [*, errW_none, errW_some] <;> rfl), by repeat (first | (with_reducible first | exact HB.out | apply below_alloc | apply pw_below_drewN | apply below_drew1 | refine below_set ?_ GE402.out) | exact HB.out)⟩
    rw [if_neg c20] at H
    have c20b0 : decide (a1 < 0) = false := decide_eq_false c20
    clear c20
    by_cases c28 : a1 ≥ (t390.length : Int)
    ·rw [if_pos c28] at H
     have c28b0 : decide ((t390.length : Int) ≤ a1) = true := decide_eq_true c28
     clear c28
     by_cases c29 : t401 = true
     ·subst c29
      have H1 : (none) = some r := by rw [if_pos rfl] at H; exact H
      clear H
      have H := H1
      clear H1
      exact absurd H (by simp)
     replace c29 := Bool.eq_false_iff.mpr c29
     subst c29
     have H1 : (if (t395 == 0 && (t396 == 0 && (t397 == 0 && (t398 == 0 && (t399 == 0 && (t400 == 0)))))) = true then ((haulierlaw36_alive.f k1).bind fun t404 => (some t404)) else (none)) = some r := by rw [if_neg (show ¬ (false = true) by decide)] at H; exact H
     clear H
     have H := H1
     clear H1
     by_cases c30 : (t395 == 0 && (t396 == 0 && (t397 == 0 && (t398 == 0 && (t399 == 0 && (t400 == 0)))))) = true
     rotate_left
     ·rw [if_neg c30] at H
      exact absurd H (by simp)
     rw [if_pos c30] at H
     have c30b0 : (t395 == 0 && (t396 == 0 && (t397 == 0 && (t398 == 0 && (t399 == 0 && (t400 == 0)))))) = true := c30
     (try (have c30b1 : decide (t395 = 0 && (t396 == 0 && (t397 == 0 && (t398 == 0 && (t399 == 0 && (t400 == 0)))))) = true := by simpa using c30))
     (try (have c30b2 : (t395 == 0 && (t396 == 0 && (t397 == 0 && (t398 == 0 && (t399 == 0 && (t400 == 0)))))) = true := by simpa using c30))
     clear c30
     replace H := Option.bind_eq_some_iff.mp H
     obtain ⟨t404, A310, H⟩ := H
     replace H : (some t404) = some r := H
     have A31 := Aside0.mk A310
     clear A310
     obtain rfl := Option.some.inj H
     go_wp2_with (first | ((with_reducible refine gate_callee (f := 19) rfl ?_); refine goesL_ (some 41) rfl rfl Try.func19 (by kernel_rfl) rfl #[.slice A0 l0.length c0, .int .i64 a1] rfl (by (try simp only [List.map_toArray, List.map_cons, List.map_nil]); first | done | rfl | (simp only [List.length_drop, List.length_take]; rfl)) ?_; (with_reducible refine (move_Nth.calls k1 _ _ l0 a1 t395 t396 t397 t398 t399 t400 false _ ?side1 ?side2 A19.out).mono ?_); (case side1 => repeat (first | exact (Kd.C_below HR0.out HB.out) | (with_reducible refine Kd.C_alloc ?_ _) | (with_reducible refine Kd.C_drewN ?_ _) | (with_reducible refine Kd.C_drew ?_))); (case side2 => exact HC0.out); rintro e w32 ⟨rfl, hb⟩; refine ⟨_, rfl, ?_⟩; have n0_ := Aside0.mk (Kd.R_below (by (with_reducible repeat (first | apply Kd.R_alloc | apply Kd.R_drewN | apply Kd.R_drew)); exact HO_5.out) hb); have n1_ := Aside0.mk (Kd.R_below (by (with_reducible repeat (first | apply Kd.R_alloc | apply Kd.R_drewN | apply Kd.R_drew)); exact HO_6.out) hb); have n2_ := Aside0.mk (below_step (by repeat (first | (with_reducible first | exact HB.out | apply below_alloc | apply pw_below_drewN | apply below_drew1) | exact HB.out)) hb); clear HO_5; clear HO_6; clear HB; have HO_5 := n0_; have HO_6 := n1_; have HB := n2_; clear n0_ n1_ n2_; (try clear hb); (try clear hb2); (try clear hk); (try clear hi)) | ((with_reducible refine gate_dst (N := 8) rfl ?_); (try (refine gate_guard (by rfl) ?_; dsimp only)); refine box_event ?hg (N := 8) ?hd (cs := #[.int .i64 0, .int .i64 0, .int .i64 0, .int .i64 0, .int .i64 0, .int .i64 0]) (t := 29) ?hr ?_; (case hd => rfl); (case hg => rfl); (case hr => first | (go_simp; done) | (go_simp; rfl)); intro gb402 hg w33 hbox hb; have n0_ := Aside0.mk (Kd.R_below (Kd.R_elderB (by (with_reducible repeat (first | apply Kd.R_alloc | apply Kd.R_drewN | apply Kd.R_drew)); exact HO_5.out) gb402 (Nat.le_of_eq hg.symm)) hb); have n1_ := Aside0.mk (Kd.R_below (by (with_reducible repeat (first | apply Kd.R_alloc | apply Kd.R_drewN | apply Kd.R_drew)); exact HO_6.out) hb); have n2_ := Aside0.mk (below_step (by repeat (first | (with_reducible first | exact HB.out | apply below_alloc | apply pw_below_drewN | apply below_drew1) | exact HB.out)) hb); have n3_ := Aside0.mk (hbox); have n4_ := Aside0.mk ((by rw [hg]; exact (below_size (by repeat (first | (with_reducible first | exact HB.out | apply below_alloc | apply pw_below_drewN | apply below_drew1) | exact HB.out))) : w.heap.size ≤ gb402)); have n5_ := Aside0.mk ((by rw [hg]; exact (below_size (by repeat (first | (with_reducible first | exact HB.out | apply below_alloc | apply pw_below_drewN | apply below_drew1) | exact HB.out))) : w.heap.size ≤ gb402)); clear HO_5; clear HO_6; clear HB; have HO_5 := n0_; have HO_6 := n1_; have HB := n2_; have BK402 := n3_; have GW402 := n4_; have GE402 := n5_; clear n0_ n1_ n2_ n3_ n4_ n5_; clear hb hbox hg; have hcz34_0 : w33.cell? ⟨gb402, 0, none⟩ = some (.int .i64 0) := (blk_cell BK402.out 0).trans rfl; have hcz34_1 : w33.cell? ⟨gb402, 1, none⟩ = some (.int .i64 0) := (blk_cell BK402.out 1).trans rfl; have hcz34_2 : w33.cell? ⟨gb402, 2, none⟩ = some (.int .i64 0) := (blk_cell BK402.out 2).trans rfl; have hcz34_3 : w33.cell? ⟨gb402, 3, none⟩ = some (.int .i64 0) := (blk_cell BK402.out 3).trans rfl; have hcz34_4 : w33.cell? ⟨gb402, 4, none⟩ = some (.int .i64 0) := (blk_cell BK402.out 4).trans rfl; have hcz34_5 : w33.cell? ⟨gb402, 5, none⟩ = some (.int .i64 0) := (blk_cell BK402.out 5).trans rfl; have hfz34_0 := blk_frozen BK402.out 0; have hfz34_1 := blk_frozen BK402.out 1; have hfz34_2 := blk_frozen BK402.out 2; have hfz34_3 := blk_frozen BK402.out 3; have hfz34_4 := blk_frozen BK402.out 4; have hfz34_5 := blk_frozen BK402.out 5) | (go_at_call 9; (with_reducible refine (haulierlaw36_alive.calls k1  t404 _ A31.out).mono ?_); rintro e w35 ⟨rfl, hb⟩; have n0_ := Aside0.mk (Kd.R_below (by (with_reducible repeat (first | apply Kd.R_alloc | apply Kd.R_drewN | apply Kd.R_drew)); exact (Kd.R_mono (Kd.R_far (p := ⟨gb402, 5, none⟩) (Kd.R_far (p := ⟨gb402, 4, none⟩) (Kd.R_far (p := ⟨gb402, 3, none⟩) (Kd.R_far (p := ⟨gb402, 2, none⟩) (Kd.R_far (p := ⟨gb402, 1, none⟩) (Kd.R_far (p := ⟨gb402, 0, none⟩) (Kd.R_mono HO_5.out (fun k_ hk => (⟨hk, hk.2⟩ : _ ∧ k_ ≠ gb402))) (fun _ hk => hk.2) (.int .i64 t395)) (fun _ hk => hk.2) (.int .i64 t396)) (fun _ hk => hk.2) (.int .i64 t397)) (fun _ hk => hk.2) (.int .i64 t398)) (fun _ hk => hk.2) (.int .i64 t399)) (fun _ hk => hk.2) (.int .i64 t400)) (fun _ h_ => h_.1))) hb); have n1_ := Aside0.mk (Kd.R_below (by (with_reducible repeat (first | apply Kd.R_alloc | apply Kd.R_drewN | apply Kd.R_drew)); exact (Kd.R_mono (Kd.R_far (p := ⟨gb402, 5, none⟩) (Kd.R_far (p := ⟨gb402, 4, none⟩) (Kd.R_far (p := ⟨gb402, 3, none⟩) (Kd.R_far (p := ⟨gb402, 2, none⟩) (Kd.R_far (p := ⟨gb402, 1, none⟩) (Kd.R_far (p := ⟨gb402, 0, none⟩) (Kd.R_types HO_6.out BK402.out (by decide)) (fun _ hk => hk.2) (.int .i64 t395)) (fun _ hk => hk.2) (.int .i64 t396)) (fun _ hk => hk.2) (.int .i64 t397)) (fun _ hk => hk.2) (.int .i64 t398)) (fun _ hk => hk.2) (.int .i64 t399)) (fun _ hk => hk.2) (.int .i64 t400)) (fun _ h_ => h_.1))) hb); have n2_ := Aside0.mk (blk_below (g := gb402) (o := .cells #[.int .i64 t395, .int .i64 t396, .int .i64 t397, .int .i64 t398, .int .i64 t399, .int .i64 t400] 29 (0, 0)) (by (with_reducible repeat (first | refine blk_drewN ?_ _ | refine blk_drew ?_ | refine blk_alloc ?_ _)); refine blk_put (cs := #[.int .i64 t395, .int .i64 t396, .int .i64 t397, .int .i64 t398, .int .i64 t399, .int .i64 0]) ?_ 5 _ rfl; (with_reducible repeat (first | refine blk_drewN ?_ _ | refine blk_drew ?_ | refine blk_alloc ?_ _)); refine blk_put (cs := #[.int .i64 t395, .int .i64 t396, .int .i64 t397, .int .i64 t398, .int .i64 0, .int .i64 0]) ?_ 4 _ rfl; (with_reducible repeat (first | refine blk_drewN ?_ _ | refine blk_drew ?_ | refine blk_alloc ?_ _)); refine blk_put (cs := #[.int .i64 t395, .int .i64 t396, .int .i64 t397, .int .i64 0, .int .i64 0, .int .i64 0]) ?_ 3 _ rfl; (with_reducible repeat (first | refine blk_drewN ?_ _ | refine blk_drew ?_ | refine blk_alloc ?_ _)); refine blk_put (cs := #[.int .i64 t395, .int .i64 t396, .int .i64 0, .int .i64 0, .int .i64 0, .int .i64 0]) ?_ 2 _ rfl; (with_reducible repeat (first | refine blk_drewN ?_ _ | refine blk_drew ?_ | refine blk_alloc ?_ _)); refine blk_put (cs := #[.int .i64 t395, .int .i64 0, .int .i64 0, .int .i64 0, .int .i64 0, .int .i64 0]) ?_ 1 _ rfl; (with_reducible repeat (first | refine blk_drewN ?_ _ | refine blk_drew ?_ | refine blk_alloc ?_ _)); refine blk_put (cs := #[.int .i64 0, .int .i64 0, .int .i64 0, .int .i64 0, .int .i64 0, .int .i64 0]) ?_ 0 _ rfl; (with_reducible repeat (first | refine blk_drewN ?_ _ | refine blk_drew ?_ | refine blk_alloc ?_ _)); exact BK402.out) hb); have n3_ := Aside0.mk (below_step (by repeat (first | (with_reducible first | exact HB.out | apply below_alloc | apply pw_below_drewN | apply below_drew1 | refine below_set ?_ GE402.out) | exact HB.out)) hb); clear HO_5; clear HO_6; clear BK402; clear HB; have HO_5 := n0_; have HO_6 := n1_; have BK402 := n2_; have HB := n3_; clear n0_ n1_ n2_ n3_; (try clear hb); (try clear hb2); (try clear hk); (try clear hi)))
     go_ret
     exact ⟨by first | rfl | (simp [errW_none, errW_some] <;> rfl) | (simp [*, errW_none, errW_some] <;> rfl), by repeat (first | (with_reducible first | exact HB.out | apply below_alloc | apply pw_below_drewN | apply below_drew1 | refine below_set ?_ GE402.out) | exact HB.out)⟩
    rw [if_neg c28] at H
    have c28b0 : decide ((t390.length : Int) ≤ a1) = false := decide_eq_false c28
    clear c28
    by_cases c36 : t401 = true
    rotate_left
    ·replace c36 := Bool.eq_false_iff.mpr c36
     subst c36
     have H1 : (none) = some r := by rw [if_neg (show ¬ (false = true) by decide)] at H; exact H
     clear H
     have H := H1
     clear H1
     exact absurd H (by simp)
    subst c36
    have H1 : (if 0 ≤ a1 then (if a1 < (t390.length : Int) then (if (t395 == ((rd_T24 t390 a1).f0) && (t396 == ((rd_T24 t390 a1).f1) && (t397 == ((rd_T24 t390 a1).f2) && (t398 == ((rd_T24 t390 a1).f3) && (t399 == ((rd_T24 t390 a1).f4) && (t400 == ((rd_T24 t390 a1).f5))))))) = true then ((haulierlaw36_alive.f k1).bind fun t406 => (some t406)) else (none)) else (none)) else (none)) = some r := by rw [if_pos rfl] at H; exact H
    clear H
    have H := H1
    clear H1
    by_cases c37 : 0 ≤ a1
    rotate_left
    ·rw [if_neg c37] at H
     exact absurd H (by simp)
    rw [if_pos c37] at H
    have c37b0 : decide (0 ≤ a1) = true := decide_eq_true c37
    clear c37
    by_cases c38 : a1 < (t390.length : Int)
    rotate_left
    ·rw [if_neg c38] at H
     exact absurd H (by simp)
    rw [if_pos c38] at H
    have c38b0 : decide (a1 < (t390.length : Int)) = true := decide_eq_true c38
    clear c38
    by_cases c39 : (t395 == ((rd_T24 t390 a1).f0) && (t396 == ((rd_T24 t390 a1).f1) && (t397 == ((rd_T24 t390 a1).f2) && (t398 == ((rd_T24 t390 a1).f3) && (t399 == ((rd_T24 t390 a1).f4) && (t400 == ((rd_T24 t390 a1).f5))))))) = true
    rotate_left
    ·rw [if_neg c39] at H
     have c39b0 : (t395 == ((rd_T24 t390 a1).f0) && (t396 == ((rd_T24 t390 a1).f1) && (t397 == ((rd_T24 t390 a1).f2) && (t398 == ((rd_T24 t390 a1).f3) && (t399 == ((rd_T24 t390 a1).f4) && (t400 == ((rd_T24 t390 a1).f5))))))) = false := by simpa using c39
     (try (have c39b1 : decide (t395 = ((rd_T24 t390 a1).f0) && (t396 == ((rd_T24 t390 a1).f1) && (t397 == ((rd_T24 t390 a1).f2) && (t398 == ((rd_T24 t390 a1).f3) && (t399 == ((rd_T24 t390 a1).f4) && (t400 == ((rd_T24 t390 a1).f5))))))) = false := by simpa using c39))
     (try (have c39b2 : (t395 == ((rd_T24 t390 a1).f0) && (t396 == ((rd_T24 t390 a1).f1) && (t397 == ((rd_T24 t390 a1).f2) && (t398 == ((rd_T24 t390 a1).f3) && (t399 == ((rd_T24 t390 a1).f4) && (t400 == ((rd_T24 t390 a1).f5))))))) = false := by simpa using c39))
     (try (have c39b3 : ¬ (t395 = ((rd_T24 t390 a1).f0) && (t396 == ((rd_T24 t390 a1).f1) && (t397 == ((rd_T24 t390 a1).f2) && (t398 == ((rd_T24 t390 a1).f3) && (t399 == ((rd_T24 t390 a1).f4) && (t400 == ((rd_T24 t390 a1).f5))))))) := by simpa using c39))
     clear c39
     exact absurd H (by simp)
    rw [if_pos c39] at H
    have c39b0 : (t395 == ((rd_T24 t390 a1).f0) && (t396 == ((rd_T24 t390 a1).f1) && (t397 == ((rd_T24 t390 a1).f2) && (t398 == ((rd_T24 t390 a1).f3) && (t399 == ((rd_T24 t390 a1).f4) && (t400 == ((rd_T24 t390 a1).f5))))))) = true := c39
    (try (have c39b1 : decide (t395 = ((rd_T24 t390 a1).f0) && (t396 == ((rd_T24 t390 a1).f1) && (t397 == ((rd_T24 t390 a1).f2) && (t398 == ((rd_T24 t390 a1).f3) && (t399 == ((rd_T24 t390 a1).f4) && (t400 == ((rd_T24 t390 a1).f5))))))) = true := by simpa using c39))
    (try (have c39b2 : (t395 == ((rd_T24 t390 a1).f0) && (t396 == ((rd_T24 t390 a1).f1) && (t397 == ((rd_T24 t390 a1).f2) && (t398 == ((rd_T24 t390 a1).f3) && (t399 == ((rd_T24 t390 a1).f4) && (t400 == ((rd_T24 t390 a1).f5))))))) = true := by simpa using c39))
    clear c39
    replace H := Option.bind_eq_some_iff.mp H
    obtain ⟨t406, A400, H⟩ := H
    replace H : (some t406) = some r := H
    have A40 := Aside0.mk A400
    clear A400
    obtain rfl := Option.some.inj H
    try go_wp2_with (first | ((with_reducible refine gate_callee (f := 19) rfl ?_); refine goesL_ (some 41) rfl rfl Try.func19 (by kernel_rfl) rfl #[.slice A0 l0.length c0, .int .i64 a1] rfl (by (try simp only [List.map_toArray, List.map_cons, List.map_nil]); first | done | rfl | (simp only [List.length_drop, List.length_take]; rfl)) ?_; (with_reducible refine (move_Nth.calls k1 _ _ l0 a1 t395 t396 t397 t398 t399 t400 true _ ?side1 ?side2 A19.out).mono ?_); (case side1 => repeat (first | exact (Kd.C_below HR0.out HB.out) | (with_reducible refine Kd.C_alloc ?_ _) | (with_reducible refine Kd.C_drewN ?_ _) | (with_reducible refine Kd.C_drew ?_))); (case side2 => exact HC0.out); rintro e w41 ⟨rfl, hb⟩; refine ⟨_, rfl, ?_⟩; have n0_ := Aside0.mk (Kd.R_below (by (with_reducible repeat (first | apply Kd.R_alloc | apply Kd.R_drewN | apply Kd.R_drew)); exact HO_5.out) hb); have n1_ := Aside0.mk (Kd.R_below (by (with_reducible repeat (first | apply Kd.R_alloc | apply Kd.R_drewN | apply Kd.R_drew)); exact HO_6.out) hb); have n2_ := Aside0.mk (below_step (by repeat (first | (with_reducible first | exact HB.out | apply below_alloc | apply pw_below_drewN | apply below_drew1) | exact HB.out)) hb); clear HO_5; clear HO_6; clear HB; have HO_5 := n0_; have HO_6 := n1_; have HB := n2_; clear n0_ n1_ n2_; (try clear hb); (try clear hb2); (try clear hk); (try clear hi)) | ((with_reducible refine gate_dst (N := 8) rfl ?_); (try (refine gate_guard (by rfl) ?_; dsimp only)); refine box_event ?hg (N := 8) ?hd (cs := #[.int .i64 0, .int .i64 0, .int .i64 0, .int .i64 0, .int .i64 0, .int .i64 0]) (t := 29) ?hr ?_; (case hd => rfl); (case hg => rfl); (case hr => first | (go_simp; done) | (go_simp; rfl)); intro gb402 hg w42 hbox hb; have n0_ := Aside0.mk (Kd.R_below (Kd.R_elderB (by (with_reducible repeat (first | apply Kd.R_alloc | apply Kd.R_drewN | apply Kd.R_drew)); exact HO_5.out) gb402 (Nat.le_of_eq hg.symm)) hb); have n1_ := Aside0.mk (Kd.R_below (by (with_reducible repeat (first | apply Kd.R_alloc | apply Kd.R_drewN | apply Kd.R_drew)); exact HO_6.out) hb); have n2_ := Aside0.mk (below_step (by repeat (first | (with_reducible first | exact HB.out | apply below_alloc | apply pw_below_drewN | apply below_drew1) | exact HB.out)) hb); have n3_ := Aside0.mk (hbox); have n4_ := Aside0.mk ((by rw [hg]; exact (below_size (by repeat (first | (with_reducible first | exact HB.out | apply below_alloc | apply pw_below_drewN | apply below_drew1) | exact HB.out))) : w.heap.size ≤ gb402)); have n5_ := Aside0.mk ((by rw [hg]; exact (below_size (by repeat (first | (with_reducible first | exact HB.out | apply below_alloc | apply pw_below_drewN | apply below_drew1) | exact HB.out))) : w.heap.size ≤ gb402)); clear HO_5; clear HO_6; clear HB; have HO_5 := n0_; have HO_6 := n1_; have HB := n2_; have BK402 := n3_; have GW402 := n4_; have GE402 := n5_; clear n0_ n1_ n2_ n3_ n4_ n5_; clear hb hbox hg; have hcz43_0 : w42.cell? ⟨gb402, 0, none⟩ = some (.int .i64 0) := (blk_cell BK402.out 0).trans rfl; have hcz43_1 : w42.cell? ⟨gb402, 1, none⟩ = some (.int .i64 0) := (blk_cell BK402.out 1).trans rfl; have hcz43_2 : w42.cell? ⟨gb402, 2, none⟩ = some (.int .i64 0) := (blk_cell BK402.out 2).trans rfl; have hcz43_3 : w42.cell? ⟨gb402, 3, none⟩ = some (.int .i64 0) := (blk_cell BK402.out 3).trans rfl; have hcz43_4 : w42.cell? ⟨gb402, 4, none⟩ = some (.int .i64 0) := (blk_cell BK402.out 4).trans rfl; have hcz43_5 : w42.cell? ⟨gb402, 5, none⟩ = some (.int .i64 0) := (blk_cell BK402.out 5).trans rfl; have hfz43_0 := blk_frozen BK402.out 0; have hfz43_1 := blk_frozen BK402.out 1; have hfz43_2 := blk_frozen BK402.out 2; have hfz43_3 := blk_frozen BK402.out 3; have hfz43_4 := blk_frozen BK402.out 4; have hfz43_5 := blk_frozen BK402.out 5))
    have n0_ : Aside0 (Kd.R k29 29 ((((((w42.setCell ⟨gb402, 0, none⟩ (.int .i64 t395)).setCell ⟨gb402, 1, none⟩ (.int .i64 t396)).setCell ⟨gb402, 2, none⟩ (.int .i64 t397)).setCell ⟨gb402, 3, none⟩ (.int .i64 t398)).setCell ⟨gb402, 4, none⟩ (.int .i64 t399)).setCell ⟨gb402, 5, none⟩ (.int .i64 t400)) w.heap.size (fun k_ => k_ ≠ gb402) (.slice Ao11 t387.length co11) t387) := ⟨by (with_reducible repeat (first | apply Kd.R_alloc | apply Kd.R_drewN | apply Kd.R_drew)); exact Kd.R_mono (Kd.R_far (p := ⟨gb402, 5, none⟩) (Kd.R_far (p := ⟨gb402, 4, none⟩) (Kd.R_far (p := ⟨gb402, 3, none⟩) (Kd.R_far (p := ⟨gb402, 2, none⟩) (Kd.R_far (p := ⟨gb402, 1, none⟩) (Kd.R_far (p := ⟨gb402, 0, none⟩) (Kd.R_mono HO_5.out (fun k_ hk => (⟨hk, hk.2⟩ : _ ∧ k_ ≠ gb402))) (fun _ hk => hk.2) (.int .i64 t395)) (fun _ hk => hk.2) (.int .i64 t396)) (fun _ hk => hk.2) (.int .i64 t397)) (fun _ hk => hk.2) (.int .i64 t398)) (fun _ hk => hk.2) (.int .i64 t399)) (fun _ hk => hk.2) (.int .i64 t400)) (fun _ hk => hk.1.2)⟩
    have n1_ : Aside0 (Kd.R k24 24 ((((((w42.setCell ⟨gb402, 0, none⟩ (.int .i64 t395)).setCell ⟨gb402, 1, none⟩ (.int .i64 t396)).setCell ⟨gb402, 2, none⟩ (.int .i64 t397)).setCell ⟨gb402, 3, none⟩ (.int .i64 t398)).setCell ⟨gb402, 4, none⟩ (.int .i64 t399)).setCell ⟨gb402, 5, none⟩ (.int .i64 t400)) w.heap.size (fun _ => True) (.slice Ao12 t390.length co12) t390) := ⟨by (with_reducible repeat (first | apply Kd.R_alloc | apply Kd.R_drewN | apply Kd.R_drew)); exact Kd.R_mono (Kd.R_far (p := ⟨gb402, 5, none⟩) (Kd.R_far (p := ⟨gb402, 4, none⟩) (Kd.R_far (p := ⟨gb402, 3, none⟩) (Kd.R_far (p := ⟨gb402, 2, none⟩) (Kd.R_far (p := ⟨gb402, 1, none⟩) (Kd.R_far (p := ⟨gb402, 0, none⟩) (Kd.R_types HO_6.out BK402.out (by decide)) (fun _ hk => hk.2) (.int .i64 t395)) (fun _ hk => hk.2) (.int .i64 t396)) (fun _ hk => hk.2) (.int .i64 t397)) (fun _ hk => hk.2) (.int .i64 t398)) (fun _ hk => hk.2) (.int .i64 t399)) (fun _ hk => hk.2) (.int .i64 t400)) (fun _ hk => trivial)⟩
    have n2_ : Aside0 (((((((w42.setCell ⟨gb402, 0, none⟩ (.int .i64 t395)).setCell ⟨gb402, 1, none⟩ (.int .i64 t396)).setCell ⟨gb402, 2, none⟩ (.int .i64 t397)).setCell ⟨gb402, 3, none⟩ (.int .i64 t398)).setCell ⟨gb402, 4, none⟩ (.int .i64 t399)).setCell ⟨gb402, 5, none⟩ (.int .i64 t400)).heap[gb402]? = some (.cells #[.int .i64 t395, .int .i64 t396, .int .i64 t397, .int .i64 t398, .int .i64 t399, .int .i64 t400] 29 (0, 0))) := ⟨by (with_reducible repeat (first | refine blk_drewN ?_ _ | refine blk_drew ?_ | refine blk_alloc ?_ _)); refine blk_put (cs := #[.int .i64 t395, .int .i64 t396, .int .i64 t397, .int .i64 t398, .int .i64 t399, .int .i64 0]) ?_ 5 _ rfl; (with_reducible repeat (first | refine blk_drewN ?_ _ | refine blk_drew ?_ | refine blk_alloc ?_ _)); refine blk_put (cs := #[.int .i64 t395, .int .i64 t396, .int .i64 t397, .int .i64 t398, .int .i64 0, .int .i64 0]) ?_ 4 _ rfl; (with_reducible repeat (first | refine blk_drewN ?_ _ | refine blk_drew ?_ | refine blk_alloc ?_ _)); refine blk_put (cs := #[.int .i64 t395, .int .i64 t396, .int .i64 t397, .int .i64 0, .int .i64 0, .int .i64 0]) ?_ 3 _ rfl; (with_reducible repeat (first | refine blk_drewN ?_ _ | refine blk_drew ?_ | refine blk_alloc ?_ _)); refine blk_put (cs := #[.int .i64 t395, .int .i64 t396, .int .i64 0, .int .i64 0, .int .i64 0, .int .i64 0]) ?_ 2 _ rfl; (with_reducible repeat (first | refine blk_drewN ?_ _ | refine blk_drew ?_ | refine blk_alloc ?_ _)); refine blk_put (cs := #[.int .i64 t395, .int .i64 0, .int .i64 0, .int .i64 0, .int .i64 0, .int .i64 0]) ?_ 1 _ rfl; (with_reducible repeat (first | refine blk_drewN ?_ _ | refine blk_drew ?_ | refine blk_alloc ?_ _)); refine blk_put (cs := #[.int .i64 0, .int .i64 0, .int .i64 0, .int .i64 0, .int .i64 0, .int .i64 0]) ?_ 0 _ rfl; (with_reducible repeat (first | refine blk_drewN ?_ _ | refine blk_drew ?_ | refine blk_alloc ?_ _)); exact BK402.out⟩
    have n3_ : Aside0 (Below w.heap.size w ((((((w42.setCell ⟨gb402, 0, none⟩ (.int .i64 t395)).setCell ⟨gb402, 1, none⟩ (.int .i64 t396)).setCell ⟨gb402, 2, none⟩ (.int .i64 t397)).setCell ⟨gb402, 3, none⟩ (.int .i64 t398)).setCell ⟨gb402, 4, none⟩ (.int .i64 t399)).setCell ⟨gb402, 5, none⟩ (.int .i64 t400))) := ⟨by repeat (first | (with_reducible first | exact HB.out | apply below_alloc | apply pw_below_drewN | apply below_drew1 | refine below_set ?_ GE402.out) | exact HB.out)⟩
    try clear HO_5; try clear HO_6; try clear BK402; try clear HB
    generalize ((((((w42.setCell ⟨gb402, 0, none⟩ (.int .i64 t395)).setCell ⟨gb402, 1, none⟩ (.int .i64 t396)).setCell ⟨gb402, 2, none⟩ (.int .i64 t397)).setCell ⟨gb402, 3, none⟩ (.int .i64 t398)).setCell ⟨gb402, 4, none⟩ (.int .i64 t399)).setCell ⟨gb402, 5, none⟩ (.int .i64 t400)) = w44 at n0_ n1_ n2_ n3_ ⊢
    have HO_5 := n0_; have HO_6 := n1_; have BK402 := n2_; have HB := n3_
    clear n0_ n1_ n2_ n3_
    have n0_ := Aside0.mk (Kd.R_drew HO_5.out)
    have n1_ := Aside0.mk (Kd.R_drew HO_6.out)
    have n2_ := Aside0.mk (blk_drew BK402.out)
    have n3_ := Aside0.mk (below_drew1 HB.out)
    clear HO_5 HO_6 BK402 HB
    have HO_5 := n0_; have HO_6 := n1_; have BK402 := n2_; have HB := n3_
    clear n0_ n1_ n2_ n3_
    have p405 : 0 ≤ (a1 : Int) := of_decide_eq_true (by first | (with_reducible assumption) | assumption)
    have q405 : a1 < (t390.length : Int) := of_decide_eq_true (by first | (with_reducible assumption) | assumption)
    obtain ⟨ad405, e405, hx405_0, hx405_1, hx405_2, hx405_3, hx405_4, hx405_5⟩ := at_T24 (Kd.R_reads' HO_6.out).2.2 a1 p405 q405
    cases e405
    replace p405 := eq_true p405
    replace q405 := eq_true q405
    refine start_ (n := 13) (S := fun w' => w'.cell? ⟨gb402, 0, none⟩ = some (.int .i64 t395) ∧ w'.cell? ⟨gb402, 1, none⟩ = some (.int .i64 t396) ∧ w'.cell? ⟨gb402, 2, none⟩ = some (.int .i64 t397) ∧ w'.cell? ⟨gb402, 3, none⟩ = some (.int .i64 t398) ∧ w'.cell? ⟨gb402, 4, none⟩ = some (.int .i64 t399) ∧ w'.cell? ⟨gb402, 5, none⟩ = some (.int .i64 t400) ∧ w'.cell? (ad405.add ((a1).toNat * 6)) = some (.int .i64 ((rd_T24 t390 a1).f0)) ∧ w'.cell? ⟨(ad405.add ((a1).toNat * 6)).block, (ad405.add ((a1).toNat * 6)).off + 1, none⟩ = some (.int .i64 ((rd_T24 t390 a1).f1)) ∧ w'.cell? ⟨(ad405.add ((a1).toNat * 6)).block, (ad405.add ((a1).toNat * 6)).off + 2, none⟩ = some (.int .i64 ((rd_T24 t390 a1).f2)) ∧ w'.cell? ⟨(ad405.add ((a1).toNat * 6)).block, (ad405.add ((a1).toNat * 6)).off + 3, none⟩ = some (.int .i64 ((rd_T24 t390 a1).f3)) ∧ w'.cell? ⟨(ad405.add ((a1).toNat * 6)).block, (ad405.add ((a1).toNat * 6)).off + 4, none⟩ = some (.int .i64 ((rd_T24 t390 a1).f4)) ∧ w'.cell? ⟨(ad405.add ((a1).toNat * 6)).block, (ad405.add ((a1).toNat * 6)).off + 5, none⟩ = some (.int .i64 ((rd_T24 t390 a1).f5))) (ds := []) #[false, false, false, false, false, false, false, false, false, false, false, false, false] (by kernel_rfl) rfl rfl ⟨(blk_cell BK402.out 0).trans rfl, (blk_cell BK402.out 1).trans rfl, (blk_cell BK402.out 2).trans rfl, (blk_cell BK402.out 3).trans rfl, (blk_cell BK402.out 4).trans rfl, (blk_cell BK402.out 5).trans rfl, hx405_0, hx405_1, hx405_2, hx405_3, hx405_4, hx405_5⟩ (fun hHeld => ?_); refine with_tabW haulierlaw36_MoveAll.tab15 haulierlaw36_MoveAll.bits15 (fun HT_ HW_ => ?_)
    generalize w44.drew = w45 at HO_5 HO_6 BK402 HB hx405_0 hx405_1 hx405_2 hx405_3 hx405_4 hx405_5 hHeld ⊢
    refine pure_ (i := 0) (N := some 62) (v := ?_) (a' := ?_) #[true, false, false, false, false, false, false, false, false, false, false, false, false] rfl rfl (any_of HT_.out (by kernel_rfl)) (fun _ _ _ h => h) (Or.inl ⟨by rfl, ?_⟩) ?_ ?_
    rotate_left
    ·intro w'
     go_simp
     with_reducible rfl
    rotate_left
    ·simp only [Act.put, List.setIfInBounds_toArray, List.set_cons_zero, List.set_cons_succ, i64_w, i32_w]
     rfl
    refine pure_ (i := 1) (N := some 63) (v := ?_) (a' := ?_) #[true, true, false, false, false, false, false, false, false, false, false, false, false] rfl rfl (any_of HT_.out (by kernel_rfl)) (fun _ _ _ h => h) (Or.inl ⟨by rfl, ?_⟩) ?_ ?_
    rotate_left
    ·intro w'
     go_simp
     with_reducible rfl
    rotate_left
    ·simp only [Act.put, List.setIfInBounds_toArray, List.set_cons_zero, List.set_cons_succ, i64_w, i32_w]
     rfl
    refine pure_ (i := 3) (N := some 65) (v := ?_) (a' := ?_) #[true, true, false, true, false, false, false, false, false, false, false, false, false] rfl rfl (any_of HT_.out (by kernel_rfl)) (fun _ _ _ h => h) (Or.inl ⟨by rfl, ?_⟩) ?_ ?_
    rotate_left
    ·intro w'
     go_simp
     with_reducible rfl
    rotate_left
    ·simp only [Act.put, List.setIfInBounds_toArray, List.set_cons_zero, List.set_cons_succ, i64_w, i32_w]
     rfl
    refine pure_ (i := 4) (N := some 66) (v := ?_) (a' := ?_) #[true, true, false, true, true, false, false, false, false, false, false, false, false] rfl rfl (any_of HT_.out (by kernel_rfl)) (fun _ _ _ h => h) (Or.inl ⟨by rfl, ?_⟩) ?_ ?_
    rotate_left
    ·intro w'
     go_simp
     with_reducible rfl
    rotate_left
    ·simp only [Act.put, List.setIfInBounds_toArray, List.set_cons_zero, List.set_cons_succ, i64_w, i32_w]
     rfl
    refine pure_ (i := 5) (N := some 67) (v := ?_) (a' := ?_) #[true, true, false, true, true, true, false, false, false, false, false, false, false] rfl rfl (any_of HT_.out (by kernel_rfl)) (fun _ _ _ h => h) (Or.inl ⟨by rfl, ?_⟩) ?_ ?_
    rotate_left
    ·intro w'
     go_simp
     with_reducible rfl
    rotate_left
    ·simp only [Act.put, List.setIfInBounds_toArray, List.set_cons_zero, List.set_cons_succ, i64_w, i32_w]
     rfl
    refine take_ (i := 2) (N := some 64) (v := ?_) (a' := ?_) #[true, true, true, true, true, true, false, false, false, false, false, false, false] rfl rfl (take_ofW HT_.out HW_.out (by kernel_rfl)) (fun _ _ _ h => h) (Or.inl ⟨by rfl, ?_⟩) hHeld ?_ ?_
    rotate_left
    ·rintro w' ⟨s0, s1, s2, s3, s4, s5, s6, s7, s8, s9, s10, s11⟩
     go_simp
     with_reducible rfl
    rotate_left
    ·simp only [Act.put, List.setIfInBounds_toArray, List.set_cons_zero, List.set_cons_succ, i64_w, i32_w]
     rfl
    refine take_ (i := 6) (N := some 68) (v := ?_) (a' := ?_) #[true, true, true, true, true, true, true, false, false, false, false, false, false] rfl rfl (take_ofW HT_.out HW_.out (by kernel_rfl)) (fun _ _ _ h => h) (Or.inl ⟨by rfl, ?_⟩) hHeld ?_ ?_
    rotate_left
    ·rintro w' ⟨s0, s1, s2, s3, s4, s5, s6, s7, s8, s9, s10, s11⟩
     go_simp
     with_reducible rfl
    rotate_left
    ·simp only [Act.put, List.setIfInBounds_toArray, List.set_cons_zero, List.set_cons_succ, i64_w, i32_w]
     rfl
    refine pure_ (i := 7) (N := some 69) (v := ?_) (a' := ?_) #[true, true, true, true, true, true, true, true, false, false, false, false, false] rfl rfl (any_of HT_.out (by kernel_rfl)) (fun _ _ _ h => h) (Or.inl ⟨by rfl, ?_⟩) ?_ ?_
    rotate_left
    ·intro w'
     go_simp
     with_reducible rfl
    rotate_left
    ·simp only [Act.put, List.setIfInBounds_toArray, List.set_cons_zero, List.set_cons_succ, i64_w, i32_w]
     rfl
    refine pure_ (i := 8) (N := some 70) (v := ?_) (a' := ?_) #[true, true, true, true, true, true, true, true, true, false, false, false, false] rfl rfl (any_of HT_.out (by kernel_rfl)) (fun _ _ _ h => h) (Or.inl ⟨by rfl, ?_⟩) ?_ ?_
    rotate_left
    ·intro w'
     go_simp
     with_reducible rfl
    rotate_left
    ·simp only [Act.put, List.setIfInBounds_toArray, List.set_cons_zero, List.set_cons_succ, i64_w, i32_w]
     rfl
    refine pure_ (i := 9) (N := some 71) (v := ?_) (a' := ?_) #[true, true, true, true, true, true, true, true, true, true, false, false, false] rfl rfl (any_of HT_.out (by kernel_rfl)) (fun _ _ _ h => h) (Or.inl ⟨by rfl, ?_⟩) ?_ ?_
    rotate_left
    ·intro w'
     go_simp
     with_reducible rfl
    rotate_left
    ·simp only [Act.put, List.setIfInBounds_toArray, List.set_cons_zero, List.set_cons_succ, i64_w, i32_w]
     rfl
    refine one_ (i := 10) (N := some 72) #[true, true, true, true, true, true, true, true, true, true, true, false, false] rfl rfl (one_of HT_.out (by kernel_rfl)) (by decide) (fun K hK => ?_)
    refine goes_ Try.func9 (by kernel_rfl) rfl #[] (by rfl) rfl rfl (by (try simp only [List.map_toArray, List.map_cons, List.map_nil]); first | done | rfl | (simp only [List.length_drop, List.length_take]; rfl)) ?_
    with_reducible refine (haulierlaw36_alive.calls k1  t406 _ A40.out).mono ?_
    rintro e w46 ⟨rfl, hb⟩
    have HS6_ := (hb.cell (World.block_lt_of_cell? _ _ (hHeld.2.2.2.2.2.2.1))).trans (hHeld.2.2.2.2.2.2.1)
    have HS7_ := (hb.cell (World.block_lt_of_cell? _ _ (hHeld.2.2.2.2.2.2.2.1))).trans (hHeld.2.2.2.2.2.2.2.1)
    have HS8_ := (hb.cell (World.block_lt_of_cell? _ _ (hHeld.2.2.2.2.2.2.2.2.1))).trans (hHeld.2.2.2.2.2.2.2.2.1)
    have HS9_ := (hb.cell (World.block_lt_of_cell? _ _ (hHeld.2.2.2.2.2.2.2.2.2.1))).trans (hHeld.2.2.2.2.2.2.2.2.2.1)
    have HS10_ := (hb.cell (World.block_lt_of_cell? _ _ (hHeld.2.2.2.2.2.2.2.2.2.2.1))).trans (hHeld.2.2.2.2.2.2.2.2.2.2.1)
    have HS11_ := (hb.cell (World.block_lt_of_cell? _ _ (hHeld.2.2.2.2.2.2.2.2.2.2.2))).trans (hHeld.2.2.2.2.2.2.2.2.2.2.2)
    refine ⟨_, rfl, ?_⟩
    have n0_ := Aside0.mk (Kd.R_below (by (with_reducible repeat (first | apply Kd.R_alloc | apply Kd.R_drewN | apply Kd.R_drew)); exact HO_5.out) hb)
    have n1_ := Aside0.mk (Kd.R_below (by (with_reducible repeat (first | apply Kd.R_alloc | apply Kd.R_drewN | apply Kd.R_drew)); exact HO_6.out) hb)
    have n2_ := Aside0.mk (blk_below (g := gb402) (o := .cells #[.int .i64 t395, .int .i64 t396, .int .i64 t397, .int .i64 t398, .int .i64 t399, .int .i64 t400] 29 (0, 0)) (by (with_reducible repeat (first | refine blk_drewN ?_ _ | refine blk_drew ?_ | refine blk_alloc ?_ _)); exact BK402.out) hb)
    have n3_ := Aside0.mk (below_step (by repeat (first | (with_reducible first | exact HB.out | apply below_alloc | apply pw_below_drewN | apply below_drew1 | refine below_set ?_ GE402.out) | exact HB.out)) hb)
    clear HO_5 HO_6 BK402 HB
    have HO_5 := n0_; have HO_6 := n1_; have BK402 := n2_; have HB := n3_
    clear n0_ n1_ n2_ n3_
    try clear hb; try clear hb2; try clear hk; try clear hi
    refine hK.out _ _ ⟨(blk_cell BK402.out 0).trans rfl, (blk_cell BK402.out 1).trans rfl, (blk_cell BK402.out 2).trans rfl, (blk_cell BK402.out 3).trans rfl, (blk_cell BK402.out 4).trans rfl, (blk_cell BK402.out 5).trans rfl, HS6_, HS7_, HS8_, HS9_, HS10_, HS11_⟩ (fun hHeld => ?_)
    clear hK K
    refine norm_ (a' := ?_) ?_ ?_
    rotate_left
    ·show Act.put _ (some 72) _ = _
     simp only [Act.put, List.setIfInBounds_toArray, List.set_cons_zero, List.set_cons_succ, i64_w, i32_w]
     rfl
    refine pure_ (i := 11) (N := some 73) (v := ?_) (a' := ?_) #[true, true, true, true, true, true, true, true, true, true, true, true, false] rfl rfl (any_of HT_.out (by kernel_rfl)) (fun _ _ _ h => h) (Or.inl ⟨by rfl, ?_⟩) ?_ ?_
    rotate_left
    ·intro w'
     go_simp
     with_reducible rfl
    rotate_left
    ·simp only [Act.put, List.setIfInBounds_toArray, List.set_cons_zero, List.set_cons_succ, i64_w, i32_w]
     rfl
    refine pure_ (i := 12) (N := some 4) (v := ?_) (a' := ?_) #[true, true, true, true, true, true, true, true, true, true, true, true, true] rfl rfl (any_of HT_.out (by kernel_rfl)) (fun _ _ _ h => h) (Or.inl ⟨by rfl, ?_⟩) ?_ ?_
    rotate_left
    ·intro w'
     go_simp
     with_reducible rfl
    rotate_left
    ·simp only [Act.put, List.setIfInBounds_toArray, List.set_cons_zero, List.set_cons_succ, i64_w, i32_w]
     rfl
    refine done_ (done_of HT_.out (by kernel_rfl)) ?_
    try go_wp2
    go_ret
    exact ⟨by first | rfl | (simp [errW_none, errW_some] <;> rfl) | (simp [*, errW_none, errW_some] <;> rfl), by repeat (first | (with_reducible first | exact HB.out | apply below_alloc | apply pw_below_drewN | apply below_drew1 | refine below_set ?_ GE402.out) | exact HB.out)⟩
def OK35 (x : S35) : Prop := (Lit.int .i64 x.f0).wf = true ∧ ((x.f1.length ≤ maxLen ∧ ∀ y4_ ∈ x.f1, (Lit.int .i64 y4_).wf = true))
/-- THE ONE PURE STATEMENT of haulierlaw36_MoveAll. -/
def haulierlaw36_MoveAll.Pure : Prop := ∀ (l0 : List (S35)) (a1 : Int), l0.length ≤ maxLen → (∀ x ∈ l0, OK35 x) → (Lit.int .i64 a1).wf = true → ∃ k, haulierlaw36_MoveAll.f k l0 a1 = some true
end Go.Proofs.Ytcofibbgdnbejaa.MMoveAll
