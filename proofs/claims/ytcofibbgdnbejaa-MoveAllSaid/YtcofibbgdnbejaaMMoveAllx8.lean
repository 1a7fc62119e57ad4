/- Written by a program of this session: Go functions that the law MoveAll reaches, as Lean functions, each with a proof that the Go code comes to just what it says; every input of the kinds that a contract names. -/
import Derived.Test.YtcofibbgdnbejaaMMoveAllx0
import Derived.Test.YtcofibbgdnbejaaMMoveAllx3
import Derived.Test.YtcofibbgdnbejaaMMoveAllx5
import Derived.Test.YtcofibbgdnbejaaMMoveAllx6
import Derived.Test.YtcofibbgdnbejaaMMoveAllx7
namespace Go.Proofs.Ytcofibbgdnbejaa.MMoveAll
open Go.RowKit Go.Proofs.YtcofibbgdnbejaaW.PrintWords Go.Proofs.YtcofibbgdnbejaaW.PrintLast Go.Proofs.YtcofibbgdnbejaaW.PrintMore
attribute [local go_sem] max2_int min2_int max_two min_two max_three min_three max_four min_four
set_option linter.unusedVariables false
set_option linter.unusedSimpArgs false
set_option linter.unnecessarySimpa false
/-! ### haulierref36_turn: function 36 -/
def haulierref36_turn.l0 : Nat → List (S35) → List Int → List Int → Int → Int → Int → Int → Int → Int → Int → Option ((List (S35)) × Bool)
  | 0, _, _, _, _, _, _, _, _, _, _ => none
  | k + 1, x0, x6, x7, x8, x328000, x328001, x328002, x328003, x328004, x328005 => if x8 < (x6.length : Int) then (if x8 < x328002 then (if 0 ≤ x8 then (if x7.length < 17592186044416 then (haulierref36_turn.l0 k x0 x6 (x7 ++ [rd x6 x8]) (wrap64 (x8 + 1)) x328000 x328001 x328002 x328003 x328004 x328005) else (none)) else (none)) else (if x8 > x328004 then (if 0 ≤ x8 then (if x7.length < 17592186044416 then (haulierref36_turn.l0 k x0 x6 (x7 ++ [rd x6 x8]) (wrap64 (x8 + 1)) x328000 x328001 x328002 x328003 x328004 x328005) else (none)) else (none)) else (if 0 ≤ (wrap64 (x328004 - (wrap64 (x8 - x328002)))) then (if (wrap64 (x328004 - (wrap64 (x8 - x328002)))) < (x6.length : Int) then (if x7.length < 17592186044416 then (haulierref36_turn.l0 k x0 x6 (x7 ++ [rd x6 (wrap64 (x328004 - (wrap64 (x8 - x328002))))]) (wrap64 (x8 + 1)) x328000 x328001 x328002 x328003 x328004 x328005) else (none)) else (none)) else (none)))) else ((haulierref36_with.f k x0 x328001 x7).bind fun t341 => (some (t341, true)))
def haulierref36_turn.f (k : Nat) (l0 : List (S35)) (a1_0 : Int) (a1_1 : Int) (a1_2 : Int) (a1_3 : Int) (a1_4 : Int) (a1_5 : Int) : Option ((List (S35)) × Bool) := if 0 ≤ a1_1 then (if a1_1 < (l0.length : Int) then (if a1_1 = a1_3 then (if a1_2 < 0 then (some (([] : List (S35)), false)) else (if a1_2 ≥ a1_4 then (some (([] : List (S35)), false)) else (if a1_4 ≥ (((rd_T35 l0 a1_1).f1).length : Int) then (some (([] : List (S35)), false)) else (haulierref36_turn.l0 k l0 ((rd_T35 l0 a1_1).f1) ([] : List Int) 0 a1_0 a1_1 a1_2 a1_3 a1_4 a1_5)))) else (some (([] : List (S35)), false))) else (none)) else (none)
theorem haulierref36_turn.mono_l : ∀ k, (∀ y0 y1 y2 y3 y4 y5 y6 y7 y8 y9, LeO (haulierref36_turn.l0 k y0 y1 y2 y3 y4 y5 y6 y7 y8 y9) (haulierref36_turn.l0 (k + 1) y0 y1 y2 y3 y4 y5 y6 y7 y8 y9))
  | 0 => fun _ _ _ _ _ _ _ _ _ _ r h => by simp [haulierref36_turn.l0] at h
  | k + 1 => by
    have ih0 := haulierref36_turn.mono_l k
    · intro y0 y1 y2 y3 y4 y5 y6 y7 y8 y9
      unfold haulierref36_turn.l0
      repeat' first
      | (with_reducible exact ih0 _ _ _ _ _ _ _ _ _ _)
      | (with_reducible exact haulierref36_with.mono _ _ _ _)
      | (with_reducible exact LeO.refl _)
      | (with_reducible exact LeO.none _)
      | (with_reducible refine LeO.ite ?_ ?_)
      | (with_reducible refine LeO.bind ?_ (fun _ => ?_))
      | exact ih0 _ _ _ _ _ _ _ _ _ _
      | exact haulierref36_with.mono _ _ _ _
      | exact LeO.none _
      | refine LeO.ite ?_ ?_
      | refine LeO.bind ?_ (fun _ => ?_)
theorem haulierref36_turn.mono : ∀ a0 a1 a2 a3 a4 a5 a6 k, LeO (haulierref36_turn.f k a0 a1 a2 a3 a4 a5 a6) (haulierref36_turn.f (k + 1) a0 a1 a2 a3 a4 a5 a6) := by
  intro a0 a1 a2 a3 a4 a5 a6 k
  have ih0 := haulierref36_turn.mono_l k
  unfold haulierref36_turn.f
  repeat' first
   | (with_reducible exact ih0 _ _ _ _ _ _ _ _ _ _)
   | (with_reducible exact haulierref36_with.mono _ _ _ _)
   | (with_reducible exact LeO.refl _)
   | (with_reducible exact LeO.none _)
   | (with_reducible refine LeO.ite ?_ ?_)
   | (with_reducible refine LeO.bind ?_ (fun _ => ?_))
   | exact ih0 _ _ _ _ _ _ _ _ _ _
   | exact haulierref36_with.mono _ _ _ _
   | exact LeO.none _
   | refine LeO.ite ?_ ?_
   | refine LeO.bind ?_ (fun _ => ?_)
set_option maxHeartbeats 8000000 in
set_option maxRecDepth 100000 in
theorem haulierref36_turn.calls (k : Nat) (P0_ : Nat → Prop) (A0 : Option Addr) (c0 : Nat) (l0 : List (S35)) (a1_0 : Int) (a1_1 : Int) (a1_2 : Int) (a1_3 : Int) (a1_4 : Int) (a1_5 : Int) (r1 : List (S35)) (r2 : Bool) (w : World) (hs0 : Kd.V k35 35 w w.heap.size (fun k_ => P0_ k_) (.slice A0 l0.length c0) l0) (h : haulierref36_turn.f k l0 a1_0 a1_1 a1_2 a1_3 a1_4 a1_5 = some (r1, r2)) :
    Calls Try.prog 36 #[.slice A0 l0.length c0, .agg #[.int .i64 a1_0, .int .i64 a1_1, .int .i64 a1_2, .int .i64 a1_3, .int .i64 a1_4, .int .i64 a1_5]] w fun e w' => ∃ v0_ : Value, e = .returned (.tuple #[v0_, .bool r2]) ∧ Kd.N k35 35 w' w.heap.size (fun k_ => (P0_ k_ ∨ w.heap.size ≤ k_)) v0_ r1 ∧ Below w.heap.size w w' := by
  have hu24 := Try.underlying24
  have HO0 := Aside0.mk (show Kd.V k35 35 w w.heap.size (fun k_ => (P0_ k_ ∨ w.heap.size ≤ k_)) (.slice A0 l0.length c0) l0 from Kd.V_mono hs0 (fun k_ hk => .inl hk))
  have HB := Aside0.mk (Below.refl w.heap.size w)
  have H : (if 0 ≤ a1_1 then (if a1_1 < (l0.length : Int) then (if a1_1 = a1_3 then (if a1_2 < 0 then (some (([] : List (S35)), false)) else (if a1_2 ≥ a1_4 then (some (([] : List (S35)), false)) else (if a1_4 ≥ (((rd_T35 l0 a1_1).f1).length : Int) then (some (([] : List (S35)), false)) else (haulierref36_turn.l0 k l0 ((rd_T35 l0 a1_1).f1) ([] : List Int) 0 a1_0 a1_1 a1_2 a1_3 a1_4 a1_5)))) else (some (([] : List (S35)), false))) else (none)) else (none)) = some (r1, r2) := h
  clear h
  by_cases c3 : 0 ≤ a1_1
  rotate_left
  ·rw [if_neg c3] at H
   exact absurd H (by simp)
  rw [if_pos c3] at H
  have c3b0 : decide (0 ≤ a1_1) = true := decide_eq_true c3
  clear c3
  by_cases c4 : a1_1 < (l0.length : Int)
  rotate_left
  ·rw [if_neg c4] at H
   exact absurd H (by simp)
  rw [if_pos c4] at H
  have c4b0 : decide (a1_1 < (l0.length : Int)) = true := decide_eq_true c4
  clear c4
  have no1_ : ((((a1_1 == a1_3) = true) ∧ ((a1_1 != a1_3) = false) ∧ (decide (a1_2 < 0) = true)) ∨ (((a1_1 == a1_3) = true) ∧ ((a1_1 != a1_3) = false) ∧ (decide (a1_2 < 0) = false) ∧ (decide (a1_4 ≤ a1_2) = true)) ∨ (((a1_1 == a1_3) = true) ∧ ((a1_1 != a1_3) = false) ∧ (decide (a1_2 < 0) = false) ∧ (decide (a1_4 ≤ a1_2) = false) ∧ (decide ((((rd_T35 l0 a1_1).f1).length : Int) ≤ a1_4) = true)) ∨ (((a1_1 == a1_3) = false) ∧ ((a1_1 != a1_3) = true))) → Calls Try.prog 36 #[.slice A0 l0.length c0, .agg #[.int .i64 a1_0, .int .i64 a1_1, .int .i64 a1_2, .int .i64 a1_3, .int .i64 a1_4, .int .i64 a1_5]] w fun e w' => ∃ v0_ : Value, e = .returned (.tuple #[v0_, .bool false]) ∧ Kd.N k35 35 w' w.heap.size (fun k_ => (P0_ k_ ∨ w.heap.size ≤ k_)) v0_ ([] : List (S35)) ∧ Below w.heap.size w w' := by
   clear H
   rintro (⟨c5b0, c5b1, c6b0⟩ | ⟨c5b0, c5b1, c6b0, c9b0⟩ | ⟨c5b0, c5b1, c6b0, c9b0, c12b0⟩ | ⟨c5b0, c5b1⟩)
   all_goals
    go_enter Try.func36, Try.ntmps36
    go_wp2_with (first | ((with_reducible refine gate_dst (N := 3) rfl ?_); (try (refine gate_guard (by rfl) ?_; dsimp only)); refine box_event ?hg (N := 3) ?hd (cs := #[.int .i64 a1_0, .int .i64 a1_1, .int .i64 a1_2, .int .i64 a1_3, .int .i64 a1_4, .int .i64 a1_5]) (t := 24) ?hr ?_; (case hd => rfl); (case hg => rfl); (case hr => first | (go_simp; done) | (go_simp; rfl)); intro gb327 hg w7 hbox hb; have n0_ := Aside0.mk (Kd.V_below (Kd.V_elderB (by (with_reducible repeat (first | apply Kd.V_alloc | apply Kd.V_drewN | apply Kd.V_drew)); exact HO0.out) gb327 (Nat.le_of_eq hg.symm)) hb); have n1_ := Aside0.mk (below_step (by repeat (first | (with_reducible first | exact HB.out | apply below_alloc | apply pw_below_drewN | apply below_drew1) | exact HB.out)) hb); have n2_ := Aside0.mk (hbox); have n3_ := Aside0.mk ((by rw [hg]; exact (below_size (by repeat (first | (with_reducible first | exact HB.out | apply below_alloc | apply pw_below_drewN | apply below_drew1) | exact HB.out))) : w.heap.size ≤ gb327)); have n4_ := Aside0.mk ((by rw [hg]; exact (below_size (by repeat (first | (with_reducible first | exact HB.out | apply below_alloc | apply pw_below_drewN | apply below_drew1) | exact HB.out))) : w.heap.size ≤ gb327)); clear HO0; clear HB; have HO0 := n0_; have HB := n1_; have BK327 := n2_; have GW327 := n3_; have GE327 := n4_; clear n0_ n1_ n2_ n3_ n4_; clear hb hbox hg; have hcz8_0 : w7.cell? ⟨gb327, 0, none⟩ = some (.int .i64 a1_0) := (blk_cell BK327.out 0).trans rfl; have hcz8_1 : w7.cell? ⟨gb327, 1, none⟩ = some (.int .i64 a1_1) := (blk_cell BK327.out 1).trans rfl; have hcz8_2 : w7.cell? ⟨gb327, 2, none⟩ = some (.int .i64 a1_2) := (blk_cell BK327.out 2).trans rfl; have hcz8_3 : w7.cell? ⟨gb327, 3, none⟩ = some (.int .i64 a1_3) := (blk_cell BK327.out 3).trans rfl; have hcz8_4 : w7.cell? ⟨gb327, 4, none⟩ = some (.int .i64 a1_4) := (blk_cell BK327.out 4).trans rfl; have hcz8_5 : w7.cell? ⟨gb327, 5, none⟩ = some (.int .i64 a1_5) := (blk_cell BK327.out 5).trans rfl; have hfz8_0 := blk_frozen BK327.out 0; have hfz8_1 := blk_frozen BK327.out 1; have hfz8_2 := blk_frozen BK327.out 2; have hfz8_3 := blk_frozen BK327.out 3; have hfz8_4 := blk_frozen BK327.out 4; have hfz8_5 := blk_frozen BK327.out 5; have p328 : 0 ≤ (a1_1 : Int) := of_decide_eq_true (by first | (with_reducible assumption) | assumption); have q328 : a1_1 < (l0.length : Int) := of_decide_eq_true (by first | (with_reducible assumption) | assumption); obtain ⟨ad328, A328_1, c328_1, e328, hx328_0, hx328_1, hl328_1, hi328_1⟩ := at_T35 (Kd.V_reads' HO0.out).2.2 a1_1 p328 q328; cases e328; obtain ⟨ce328, hce328, hMe328, hcc328⟩ := Kd.V_get HO0.out z35 a1_1 p328 (by first | exact q328 | exact of_decide_eq_true (by first | (with_reducible assumption) | assumption) | (have e_ := (Kd.V_reads' HO0.out).1; omega)); obtain ⟨ua328_1, uc328_1, rfl, ul328_1, ge328_1⟩ := k35_openF hMe328; have hv328_1 := hcc328 1 _ rfl; rw [add_field _ _ 1 (by omega)] at hv328_1; replace hv328_1 := Option.some.inj (hv328_1.symm.trans hx328_1); injection hv328_1 with hva_ hvn_ hvc_; rw [hva_] at ge328_1; rw [hvc_] at ul328_1; have HL328_1 := Aside0.mk (show Kd.V (Kd.int .i64) 3 _ w.heap.size _ _ ((rd_T35 l0 a1_1).f1) from Kd.V_mk ul328_1 ge328_1); clear hva_ hvn_ hvc_ ge328_1 ul328_1; clear hcc328 hce328; have HR328_1 := Aside0.mk hi328_1; have HC328_1 := Aside0.mk hl328_1; clear hi328_1 hl328_1; replace p328 := eq_true p328; replace q328 := eq_true q328))
    go_ret2
    exact ⟨_, by first | rfl | (simp [errW_none, errW_some] <;> rfl) | (simp [*, errW_none, errW_some] <;> rfl), by first | exact Kd.S_nil _ _ _ _ _ | exact Kd.N_nil _ _ _ _ _ | exact Kd.V_nil _ _ _ _ _ | exact Kd.Q_nil _ _ _ _ _ | exact Kd.R_nil _ _ _ _ _, by repeat (first | (with_reducible first | exact HB.out | apply below_alloc | apply pw_below_drewN | apply below_drew1 | refine below_set ?_ GE327.out) | exact HB.out)⟩
  by_cases c5 : a1_1 = a1_3
  rotate_left
  ·rw [if_neg c5] at H
   have c5b0 : (a1_1 == a1_3) = false := beq_eq_false_iff_ne.mpr c5
   have c5b1 : (a1_1 != a1_3) = true := bne_iff_ne.mpr c5
   simp only [Option.some.injEq, Prod.mk.injEq] at H
   obtain ⟨rfl, rfl⟩ := H
   exact no1_ (.inr (.inr (.inr (⟨c5b0, c5b1⟩))))
  rw [if_pos c5] at H
  have c5b0 : (a1_1 == a1_3) = true := beq_iff_eq.mpr c5
  have c5b1 : (a1_1 != a1_3) = false := bne_eq_false_iff_eq.mpr c5
  clear c5
  by_cases c6 : a1_2 < 0
  ·rw [if_pos c6] at H
   have c6b0 : decide (a1_2 < 0) = true := decide_eq_true c6
   clear c6
   simp only [Option.some.injEq, Prod.mk.injEq] at H
   obtain ⟨rfl, rfl⟩ := H
   exact no1_ (.inl ⟨c5b0, c5b1, c6b0⟩)
  rw [if_neg c6] at H
  have c6b0 : decide (a1_2 < 0) = false := decide_eq_false c6
  clear c6
  by_cases c9 : a1_2 ≥ a1_4
  ·rw [if_pos c9] at H
   have c9b0 : decide (a1_4 ≤ a1_2) = true := decide_eq_true c9
   clear c9
   simp only [Option.some.injEq, Prod.mk.injEq] at H
   obtain ⟨rfl, rfl⟩ := H
   exact no1_ (.inr (.inl ⟨c5b0, c5b1, c6b0, c9b0⟩))
  rw [if_neg c9] at H
  have c9b0 : decide (a1_4 ≤ a1_2) = false := decide_eq_false c9
  clear c9
  by_cases c12 : a1_4 ≥ (((rd_T35 l0 a1_1).f1).length : Int)
  ·rw [if_pos c12] at H
   have c12b0 : decide ((((rd_T35 l0 a1_1).f1).length : Int) ≤ a1_4) = true := decide_eq_true c12
   clear c12
   simp only [Option.some.injEq, Prod.mk.injEq] at H
   obtain ⟨rfl, rfl⟩ := H
   exact no1_ (.inr (.inr (.inl ⟨c5b0, c5b1, c6b0, c9b0, c12b0⟩)))
  rw [if_neg c12] at H
  have c12b0 : decide ((((rd_T35 l0 a1_1).f1).length : Int) ≤ a1_4) = false := decide_eq_false c12
  clear c12
  have H' := Aside0.mk H
  clear H
  go_enter Try.func36, Try.ntmps36
  go_wp2_with (first | ((with_reducible refine gate_dst (N := 3) rfl ?_); (try (refine gate_guard (by rfl) ?_; dsimp only)); refine box_event ?hg (N := 3) ?hd (cs := #[.int .i64 a1_0, .int .i64 a1_1, .int .i64 a1_2, .int .i64 a1_3, .int .i64 a1_4, .int .i64 a1_5]) (t := 24) ?hr ?_; (case hd => rfl); (case hg => rfl); (case hr => first | (go_simp; done) | (go_simp; rfl)); intro gb327 hg w15 hbox hb; have n0_ := Aside0.mk (Kd.V_below (Kd.V_elderB (by (with_reducible repeat (first | apply Kd.V_alloc | apply Kd.V_drewN | apply Kd.V_drew)); exact HO0.out) gb327 (Nat.le_of_eq hg.symm)) hb); have n1_ := Aside0.mk (below_step (by repeat (first | (with_reducible first | exact HB.out | apply below_alloc | apply pw_below_drewN | apply below_drew1) | exact HB.out)) hb); have n2_ := Aside0.mk (hbox); have n3_ := Aside0.mk ((by rw [hg]; exact (below_size (by repeat (first | (with_reducible first | exact HB.out | apply below_alloc | apply pw_below_drewN | apply below_drew1) | exact HB.out))) : w.heap.size ≤ gb327)); have n4_ := Aside0.mk ((by rw [hg]; exact (below_size (by repeat (first | (with_reducible first | exact HB.out | apply below_alloc | apply pw_below_drewN | apply below_drew1) | exact HB.out))) : w.heap.size ≤ gb327)); clear HO0; clear HB; have HO0 := n0_; have HB := n1_; have BK327 := n2_; have GW327 := n3_; have GE327 := n4_; clear n0_ n1_ n2_ n3_ n4_; clear hb hbox hg; have hcz16_0 : w15.cell? ⟨gb327, 0, none⟩ = some (.int .i64 a1_0) := (blk_cell BK327.out 0).trans rfl; have hcz16_1 : w15.cell? ⟨gb327, 1, none⟩ = some (.int .i64 a1_1) := (blk_cell BK327.out 1).trans rfl; have hcz16_2 : w15.cell? ⟨gb327, 2, none⟩ = some (.int .i64 a1_2) := (blk_cell BK327.out 2).trans rfl; have hcz16_3 : w15.cell? ⟨gb327, 3, none⟩ = some (.int .i64 a1_3) := (blk_cell BK327.out 3).trans rfl; have hcz16_4 : w15.cell? ⟨gb327, 4, none⟩ = some (.int .i64 a1_4) := (blk_cell BK327.out 4).trans rfl; have hcz16_5 : w15.cell? ⟨gb327, 5, none⟩ = some (.int .i64 a1_5) := (blk_cell BK327.out 5).trans rfl; have hfz16_0 := blk_frozen BK327.out 0; have hfz16_1 := blk_frozen BK327.out 1; have hfz16_2 := blk_frozen BK327.out 2; have hfz16_3 := blk_frozen BK327.out 3; have hfz16_4 := blk_frozen BK327.out 4; have hfz16_5 := blk_frozen BK327.out 5; have p328 : 0 ≤ (a1_1 : Int) := of_decide_eq_true (by first | (with_reducible assumption) | assumption); have q328 : a1_1 < (l0.length : Int) := of_decide_eq_true (by first | (with_reducible assumption) | assumption); obtain ⟨ad328, A328_1, c328_1, e328, hx328_0, hx328_1, hl328_1, hi328_1⟩ := at_T35 (Kd.V_reads' HO0.out).2.2 a1_1 p328 q328; cases e328; obtain ⟨ce328, hce328, hMe328, hcc328⟩ := Kd.V_get HO0.out z35 a1_1 p328 (by first | exact q328 | exact of_decide_eq_true (by first | (with_reducible assumption) | assumption) | (have e_ := (Kd.V_reads' HO0.out).1; omega)); obtain ⟨ua328_1, uc328_1, rfl, ul328_1, ge328_1⟩ := k35_openF hMe328; have hv328_1 := hcc328 1 _ rfl; rw [add_field _ _ 1 (by omega)] at hv328_1; replace hv328_1 := Option.some.inj (hv328_1.symm.trans hx328_1); injection hv328_1 with hva_ hvn_ hvc_; rw [hva_] at ge328_1; rw [hvc_] at ul328_1; have HL328_1 := Aside0.mk (show Kd.V (Kd.int .i64) 3 _ w.heap.size _ _ ((rd_T35 l0 a1_1).f1) from Kd.V_mk ul328_1 ge328_1); clear hva_ hvn_ hvc_ ge328_1 ul328_1; clear hcc328 hce328; have HR328_1 := Aside0.mk hi328_1; have HC328_1 := Aside0.mk hl328_1; clear hi328_1 hl328_1; replace p328 := eq_true p328; replace q328 := eq_true q328))
  have HRw : Aside0 (Kd.C (Kd.int .i64) w A328_1 ((rd_T35 l0 a1_1).f1).length ((rd_T35 l0 a1_1).f1)) := ⟨by
   obtain ⟨adw, Aw, cw, ew, hxw0, hxw1, hlw, hiw⟩ := at_T35 (Kd.V_reads' hs0).2.2 a1_1 (of_eq_true p328) (of_eq_true q328)
   cases ew
   have h2 := (HB.out.cell (World.block_lt_of_cell? w _ hxw1)).trans hxw1
   have h3 := Option.some.inj (h2.symm.trans hx328_1)
   injection h3 with e1 e2 e3
   rw [← e1]
   exact hiw⟩
  go_loopg [7, 8] k (fun kq v7 v8 w' => ∃ (x7_1 : List Int) (x8_1 : Int), v8 = .int .i64 x8_1 ∧ Aside0 (haulierref36_turn.l0 kq l0 ((rd_T35 l0 a1_1).f1) x7_1 x8_1 a1_0 a1_1 a1_2 a1_3 a1_4 a1_5 = some (r1, r2)) ∧ Aside0 (kq ≤ k) ∧ Aside0 (Kd.V k35 35 w' w.heap.size (fun k_ => (P0_ k_ ∨ w.heap.size ≤ k_) ∧ some k_ ≠ (v7 : Value).ownBlock ∧ k_ ≠ gb327) (.slice (some ad328) l0.length c0) l0) ∧ Aside0 (Kd.R (Kd.int .i64) 3 w' w.heap.size (fun k_ => (w.heap.size ≤ k_)) v7 x7_1) ∧ Aside0 (w'.heap[gb327]? = some (.cells #[.int .i64 a1_0, .int .i64 a1_1, .int .i64 a1_2, .int .i64 a1_3, .int .i64 a1_4, .int .i64 a1_5] 24 (0, 0))) ∧ Aside0 (Below w.heap.size w w'))
  case atStart => exact ⟨(([] : List Int)), (0), (by first | rfl | (simp; done) | (simp [*]; done)), H', ⟨Nat.le_refl _⟩, ⟨by (with_reducible repeat (first | apply Kd.V_alloc | apply Kd.V_drewN | apply Kd.V_drew)); exact Kd.V_mono HO0.out (fun _ hk => ⟨hk.1, ⟨(by simp [Value.ownBlock]), hk.2⟩⟩)⟩, ⟨by first | exact Kd.R_nil _ _ _ _ _ | exact Kd.N_nil _ _ _ _ _ | exact Kd.V_nil _ _ _ _ _ | exact Kd.Q_nil _ _ _ _ _ | exact Kd.S_nil _ _ _ _ _⟩, ⟨by (with_reducible repeat (first | refine blk_drewN ?_ _ | refine blk_drew ?_ | refine blk_alloc ?_ _)); exact BK327.out⟩, ⟨by repeat (first | (with_reducible first | exact HB.out | apply below_alloc | apply pw_below_drewN | apply below_drew1 | refine below_set ?_ GE327.out) | exact HB.out)⟩⟩
  case round =>
   clear H'
   try clear c1; try clear p2; try clear c3; try clear c3b0; try clear p3; try clear q3; try clear hx3; try clear c4; try clear c4b0; try clear c5; try clear c5b0; try clear c5b1; try clear c6; try clear c6b0; try clear c9; try clear c9b0; try clear c12; try clear c12b0; try clear hcz11_0; try clear hcz11_1; try clear hcz11_2; try clear hcz11_3; try clear hcz11_4; try clear hcz11_5; try clear hcz14_0; try clear hcz14_1; try clear hcz14_2; try clear hcz14_3; try clear hcz14_4; try clear hcz14_5; try clear hcz16_0; try clear hcz16_1; try clear hcz16_2; try clear hcz16_3; try clear hcz16_4; try clear hcz16_5; try clear hcz8_0; try clear hcz8_1; try clear hcz8_2; try clear hcz8_3; try clear hcz8_4; try clear hcz8_5; try clear hfz11_0; try clear hfz11_1; try clear hfz11_2; try clear hfz11_3; try clear hfz11_4; try clear hfz11_5; try clear hfz14_0; try clear hfz14_1; try clear hfz14_2; try clear hfz14_3; try clear hfz14_4; try clear hfz14_5; try clear hfz16_0; try clear hfz16_1; try clear hfz16_2; try clear hfz16_3; try clear hfz16_4; try clear hfz16_5; try clear hfz8_0; try clear hfz8_1; try clear hfz8_2; try clear hfz8_3; try clear hfz8_4; try clear hfz8_5; try clear hx328_0; try clear hx328_1; try clear p328; try clear q328
   obtain ⟨x7_1, x8_1, rfl, HA, HK1, HO_0, HO_7, BK327, HB⟩ := hrel
   cases gk with
   | zero => exact absurd HA.out (by simp [haulierref36_turn.l0])
   | succ k1 =>
    have H := HA.out
    clear HA
    simp only [haulierref36_turn.l0] at H
    by_cases c17 : x8_1 < (((rd_T35 l0 a1_1).f1).length : Int)
    rotate_left
    ·rw [if_neg c17] at H
     have c17b0 : decide (x8_1 < (((rd_T35 l0 a1_1).f1).length : Int)) = false := decide_eq_false c17
     clear c17
     replace H := Option.bind_eq_some_iff.mp H
     obtain ⟨t341, A340, H⟩ := H
     replace H : (some (t341, true)) = some (r1, r2) := H
     have A34 := Aside0.mk A340
     clear A340
     simp only [Option.some.injEq, Prod.mk.injEq] at H
     obtain ⟨rfl, rfl⟩ := H
     have hcz35_0 : wr.cell? ⟨gb327, 0, none⟩ = some (.int .i64 a1_0) := (blk_cell BK327.out 0).trans rfl
     have hcz35_1 : wr.cell? ⟨gb327, 1, none⟩ = some (.int .i64 a1_1) := (blk_cell BK327.out 1).trans rfl
     have hcz35_2 : wr.cell? ⟨gb327, 2, none⟩ = some (.int .i64 a1_2) := (blk_cell BK327.out 2).trans rfl
     have hcz35_3 : wr.cell? ⟨gb327, 3, none⟩ = some (.int .i64 a1_3) := (blk_cell BK327.out 3).trans rfl
     have hcz35_4 : wr.cell? ⟨gb327, 4, none⟩ = some (.int .i64 a1_4) := (blk_cell BK327.out 4).trans rfl
     have hcz35_5 : wr.cell? ⟨gb327, 5, none⟩ = some (.int .i64 a1_5) := (blk_cell BK327.out 5).trans rfl
     have hfz35_0 := blk_frozen BK327.out 0
     have hfz35_1 := blk_frozen BK327.out 1
     have hfz35_2 := blk_frozen BK327.out 2
     have hfz35_3 := blk_frozen BK327.out 3
     have hfz35_4 := blk_frozen BK327.out 4
     have hfz35_5 := blk_frozen BK327.out 5
     obtain ⟨Ao36, co36, eo36⟩ := Kd.R_slice HO_7.out
     subst eo36
     go_wp2_with (first | ((with_reducible refine gate_callee (f := 43) rfl ?_); refine goesL_ (some 79) rfl rfl Try.func43 (by kernel_rfl) rfl #[.slice (some ad328) l0.length c0, .int .i64 a1_1, .slice Ao36 x7_1.length co36] rfl (by (try simp only [List.map_toArray, List.map_cons, List.map_nil]); first | done | rfl | (simp only [List.length_drop, List.length_take]; rfl)) ?_; (with_reducible refine (haulierref36_with.calls k1 (fun k_ => ((P0_ k_ ∨ w.heap.size ≤ k_) ∧ (some k_ ≠ (.slice Ao36 x7_1.length co36 : Value).ownBlock ∧ k_ ≠ gb327))) _ _ l0 a1_1 (fun k_ => some k_ = (.slice Ao36 x7_1.length co36 : Value).ownBlock) _ _ x7_1 t341 _ ?side1 ?side2 A34.out).mono ?_); (case side1 => exact HO_0.out); (case side2 => exact Kd.R_V (Kd.R_tight rfl (Kd.R_types (HO_7.out) BK327.out (by decide)))); rintro e w37 ⟨v342, rfl, ho0, hb⟩; refine ⟨_, rfl, ?_⟩; have n0_ := Aside0.mk (Kd.V_elder' (by (with_reducible repeat (first | apply Kd.V_alloc | apply Kd.V_drewN | apply Kd.V_drew)); exact HO_0.out) (Kd.N_base ho0) hb); have n1_ := Aside0.mk (Kd.R_below (by (with_reducible repeat (first | apply Kd.R_alloc | apply Kd.R_drewN | apply Kd.R_drew)); exact HO_7.out) hb); have n2_ := Aside0.mk (Kd.N_lower (Kd.N_mono (ok' := fun k_ => (P0_ k_ ∨ w.heap.size ≤ k_) ∧ k_ ≠ gb327) ho0 (fun k_ hk_ => ⟨Or.elim hk_ (fun hs_ => Or.elim hs_ (fun hs_ => hs_.1) (fun hs_ => (.inr (((Kd.R_types (HO_7.out) BK327.out (by decide)).1 k_ hs_.symm).1)))) (fun hn_ => (.inr (Nat.le_trans (below_size (by repeat (first | (with_reducible first | exact HB.out | apply below_alloc | apply pw_below_drewN | apply below_drew1 | refine below_set ?_ GE327.out) | exact HB.out))) hn_))), Or.elim hk_ (fun hs_ => Or.elim hs_ (fun hs_ => hs_.2.2) (fun hs_ => ((Kd.R_types (HO_7.out) BK327.out (by decide)).1 k_ hs_.symm).2)) (fun hn_ => (Kd.freshB (g := gb327) (o := .cells #[.int .i64 a1_0, .int .i64 a1_1, .int .i64 a1_2, .int .i64 a1_3, .int .i64 a1_4, .int .i64 a1_5] 24 (0, 0)) (by (with_reducible repeat (first | refine blk_drewN ?_ _ | refine blk_drew ?_ | refine blk_alloc ?_ _)); exact BK327.out) k_ hn_))⟩)) (below_size (by repeat (first | (with_reducible first | exact HB.out | apply below_alloc | apply pw_below_drewN | apply below_drew1 | refine below_set ?_ GE327.out) | exact HB.out)))); have n3_ := Aside0.mk (blk_below (g := gb327) (o := .cells #[.int .i64 a1_0, .int .i64 a1_1, .int .i64 a1_2, .int .i64 a1_3, .int .i64 a1_4, .int .i64 a1_5] 24 (0, 0)) (by (with_reducible repeat (first | refine blk_drewN ?_ _ | refine blk_drew ?_ | refine blk_alloc ?_ _)); exact BK327.out) hb); have n4_ := Aside0.mk (below_step (by repeat (first | (with_reducible first | exact HB.out | apply below_alloc | apply pw_below_drewN | apply below_drew1 | refine below_set ?_ GE327.out) | exact HB.out)) hb); clear HO_0; clear HO_7; clear BK327; clear HB; have HO_0 := n0_; have HO_7 := n1_; have HO343 := n2_; have BK327 := n3_; have HB := n4_; clear n0_ n1_ n2_ n3_ n4_; (try clear hb); (try clear hb2); (try clear hk); (try clear hi); (try clear ho0)))
     go_ret2
     exact ⟨_, by first | rfl | (simp [errW_none, errW_some] <;> rfl) | (simp [*, errW_none, errW_some] <;> rfl), by (with_reducible repeat (first | apply Kd.N_alloc | apply Kd.N_drewN | apply Kd.N_drew)); exact Kd.N_mono HO343.out (fun _ hk => hk.1), by repeat (first | (with_reducible first | exact HB.out | apply below_alloc | apply pw_below_drewN | apply below_drew1 | refine below_set ?_ GE327.out) | exact HB.out)⟩
    rw [if_pos c17] at H
    have c17b0 : decide (x8_1 < (((rd_T35 l0 a1_1).f1).length : Int)) = true := decide_eq_true c17
    clear c17
    by_cases c18 : x8_1 < a1_2
    ·rw [if_pos c18] at H
     have c18b0 : decide (x8_1 < a1_2) = true := decide_eq_true c18
     clear c18
     by_cases c19 : 0 ≤ x8_1
     rotate_left
     ·rw [if_neg c19] at H
      exact absurd H (by simp)
     rw [if_pos c19] at H
     have c19b0 : decide (0 ≤ x8_1) = true := decide_eq_true c19
     clear c19
     by_cases c20 : x7_1.length < 17592186044416
     rotate_left
     ·rw [if_neg c20] at H
      exact absurd H (by simp)
     rw [if_pos c20] at H
     have LMc20 := Aside0.mk c20
     clear c20
     obtain ⟨y330, hy330⟩ : ∃ y_ : List Int, y_ = (x7_1 ++ [rd ((rd_T35 l0 a1_1).f1) x8_1]) := ⟨_, rfl⟩
     replace H : (haulierref36_turn.l0 k1 l0 ((rd_T35 l0 a1_1).f1) y330 (wrap64 (x8_1 + 1)) a1_0 a1_1 a1_2 a1_3 a1_4 a1_5) = some (r1, r2) := by first | (rw [hy330]; with_reducible exact H) | (have H2_ := (Option.bind_some _ _).symm.trans H; rw [hy330]; with_reducible exact H2_) | (have H2_ := (Option.bind_some _ _).symm.trans H; with_reducible exact H2_) | with_reducible exact H | (rw [hy330]; exact H) | exact H
     have Ny330 := Aside0.mk hy330
     clear hy330
     have H' := Aside0.mk H
     clear H
     have hcz21_0 : wr.cell? ⟨gb327, 0, none⟩ = some (.int .i64 a1_0) := (blk_cell BK327.out 0).trans rfl
     have hcz21_1 : wr.cell? ⟨gb327, 1, none⟩ = some (.int .i64 a1_1) := (blk_cell BK327.out 1).trans rfl
     have hcz21_2 : wr.cell? ⟨gb327, 2, none⟩ = some (.int .i64 a1_2) := (blk_cell BK327.out 2).trans rfl
     have hcz21_3 : wr.cell? ⟨gb327, 3, none⟩ = some (.int .i64 a1_3) := (blk_cell BK327.out 3).trans rfl
     have hcz21_4 : wr.cell? ⟨gb327, 4, none⟩ = some (.int .i64 a1_4) := (blk_cell BK327.out 4).trans rfl
     have hcz21_5 : wr.cell? ⟨gb327, 5, none⟩ = some (.int .i64 a1_5) := (blk_cell BK327.out 5).trans rfl
     have hfz21_0 := blk_frozen BK327.out 0
     have hfz21_1 := blk_frozen BK327.out 1
     have hfz21_2 := blk_frozen BK327.out 2
     have hfz21_3 := blk_frozen BK327.out 3
     have hfz21_4 := blk_frozen BK327.out 4
     have hfz21_5 := blk_frozen BK327.out 5
     have p329 : 0 ≤ (x8_1 : Int) := of_decide_eq_true (by first | (with_reducible assumption) | assumption)
     have q329 : x8_1 < (((rd_T35 l0 a1_1).f1).length : Int) := of_decide_eq_true (by first | (with_reducible assumption) | assumption)
     obtain ⟨ad329, e329, hx329_0⟩ := Kd.at_int (Kd.C_below HRw.out HB.out) x8_1 p329 q329
     cases e329
     try replace hx329_0 := (HB.out.cell (World.block_lt_of_cell? w _ hx329_0)).trans hx329_0
     replace p329 := eq_true p329
     replace q329 := eq_true q329
     go_wp2_with (first | ((with_reducible refine gate_builtin (b := .append) (xs := #[.tmp 55, .tmp 60]) rfl ?_); (try (refine gate_guard (by rfl) ?_; dsimp only)); at_builtin; refine Kd.R_append (Kd.int .i64) (w0 := w) w.heap.size rfl (.tmp 55) (.tmp 60) 33 3 (.int .i64 0) 8 rfl Try.underlying33 info3 rfl (by decide) (by omega) u7 x7_1 (rd ((rd_T35 l0 a1_1).f1) x8_1) [.int .i64 (rd ((rd_T35 l0 a1_1).f1) x8_1)] (fun k_ => (w.heap.size ≤ k_)) (fun _ => False) rfl rfl ?aP (fun _ hk => hk.elim) ?aF ?aO ?aB ?aS ?aL ?_; (case aP => exact rfl); (case aB => exact (by repeat (first | (with_reducible first | exact HB.out | apply below_alloc | apply pw_below_drewN | apply below_drew1 | refine below_set ?_ GE327.out) | exact HB.out))); (case aF => exact (fun k_ hk => (Nat.le_trans (below_size (by repeat (first | (with_reducible first | exact HB.out | apply below_alloc | apply pw_below_drewN | apply below_drew1 | refine below_set ?_ GE327.out) | exact HB.out))) hk))); (case aO => exact (by (with_reducible repeat (first | apply Kd.R_alloc | apply Kd.R_drewN | apply Kd.R_drew)); exact HO_7.out)); (case aS => exact (below_size (by repeat (first | (with_reducible first | exact HB.out | apply below_alloc | apply pw_below_drewN | apply below_drew1 | refine below_set ?_ GE327.out) | exact HB.out)))); (case aL => have := LMc20.out; omega); intro v331 w22 ho hb hg hat; rw [← Ny330.out] at ho; have n0_ := Aside0.mk (Kd.V_afterv (ok := (fun k_ => (P0_ k_ ∨ w.heap.size ≤ k_) ∧ k_ ≠ gb327)) (by (with_reducible repeat (first | apply Kd.V_alloc | apply Kd.V_drewN | apply Kd.V_drew)); exact Kd.V_mono HO_0.out (fun _ hk => ⟨⟨hk.1, hk.2.2⟩, hk.2.1⟩)) hg hat); have n1_ := Aside0.mk (blk_grown (g := gb327) (o := .cells #[.int .i64 a1_0, .int .i64 a1_1, .int .i64 a1_2, .int .i64 a1_3, .int .i64 a1_4, .int .i64 a1_5] 24 (0, 0)) (by (with_reducible repeat (first | refine blk_drewN ?_ _ | refine blk_drew ?_ | refine blk_alloc ?_ _)); exact BK327.out) hg (by first | exact Kd.R_ne HO_7.out BK327.out (by decide) | exact Kd.R_away HO_7.out (fun _ hk => hk.2) | exact Kd.R_away HO_7.out (fun _ hk => hk) | exact Kd.R_away HO_7.out (fun _ hk => hk.1.2))); have n2_ := Aside0.mk (hb); have n3_ := Aside0.mk (ho); clear HO_0; clear BK327; clear HB; clear HO_7; have HO_0 := n0_; have BK327 := n1_; have HB := n2_; have HO332 := n3_; clear n0_ n1_ n2_ n3_; clear ho hb hg hat))
     go_roundg k1
     case measure => have := HK1.out; omega
     case rel => exact ⟨(y330), (wrap64 (x8_1 + 1)), (by first | rfl | (simp; done) | (simp [*]; done)), H', ⟨by have := HK1.out; omega⟩, ⟨by (with_reducible repeat (first | apply Kd.V_alloc | apply Kd.V_drewN | apply Kd.V_drew)); exact Kd.V_mono HO_0.out (fun _ hk => ⟨hk.1.1, ⟨hk.2, hk.1.2⟩⟩)⟩, ⟨by (with_reducible repeat (first | apply Kd.R_alloc | apply Kd.R_drewN | apply Kd.R_drew)); exact HO332.out⟩, ⟨by (with_reducible repeat (first | refine blk_drewN ?_ _ | refine blk_drew ?_ | refine blk_alloc ?_ _)); exact BK327.out⟩, ⟨by repeat (first | (with_reducible first | exact HB.out | apply below_alloc | apply pw_below_drewN | apply below_drew1 | refine below_set ?_ GE327.out) | exact HB.out)⟩⟩
    rw [if_neg c18] at H
    have c18b0 : decide (x8_1 < a1_2) = false := decide_eq_false c18
    clear c18
    by_cases c23 : x8_1 > a1_4
    ·rw [if_pos c23] at H
     have c23b0 : decide (a1_4 < x8_1) = true := decide_eq_true c23
     clear c23
     by_cases c24 : 0 ≤ x8_1
     rotate_left
     ·rw [if_neg c24] at H
      exact absurd H (by simp)
     rw [if_pos c24] at H
     have c24b0 : decide (0 ≤ x8_1) = true := decide_eq_true c24
     clear c24
     by_cases c25 : x7_1.length < 17592186044416
     rotate_left
     ·rw [if_neg c25] at H
      exact absurd H (by simp)
     rw [if_pos c25] at H
     have LMc25 := Aside0.mk c25
     clear c25
     obtain ⟨y334, hy334⟩ : ∃ y_ : List Int, y_ = (x7_1 ++ [rd ((rd_T35 l0 a1_1).f1) x8_1]) := ⟨_, rfl⟩
     replace H : (haulierref36_turn.l0 k1 l0 ((rd_T35 l0 a1_1).f1) y334 (wrap64 (x8_1 + 1)) a1_0 a1_1 a1_2 a1_3 a1_4 a1_5) = some (r1, r2) := by first | (rw [hy334]; with_reducible exact H) | (have H2_ := (Option.bind_some _ _).symm.trans H; rw [hy334]; with_reducible exact H2_) | (have H2_ := (Option.bind_some _ _).symm.trans H; with_reducible exact H2_) | with_reducible exact H | (rw [hy334]; exact H) | exact H
     have Ny334 := Aside0.mk hy334
     clear hy334
     have H' := Aside0.mk H
     clear H
     have hcz26_0 : wr.cell? ⟨gb327, 0, none⟩ = some (.int .i64 a1_0) := (blk_cell BK327.out 0).trans rfl
     have hcz26_1 : wr.cell? ⟨gb327, 1, none⟩ = some (.int .i64 a1_1) := (blk_cell BK327.out 1).trans rfl
     have hcz26_2 : wr.cell? ⟨gb327, 2, none⟩ = some (.int .i64 a1_2) := (blk_cell BK327.out 2).trans rfl
     have hcz26_3 : wr.cell? ⟨gb327, 3, none⟩ = some (.int .i64 a1_3) := (blk_cell BK327.out 3).trans rfl
     have hcz26_4 : wr.cell? ⟨gb327, 4, none⟩ = some (.int .i64 a1_4) := (blk_cell BK327.out 4).trans rfl
     have hcz26_5 : wr.cell? ⟨gb327, 5, none⟩ = some (.int .i64 a1_5) := (blk_cell BK327.out 5).trans rfl
     have hfz26_0 := blk_frozen BK327.out 0
     have hfz26_1 := blk_frozen BK327.out 1
     have hfz26_2 := blk_frozen BK327.out 2
     have hfz26_3 := blk_frozen BK327.out 3
     have hfz26_4 := blk_frozen BK327.out 4
     have hfz26_5 := blk_frozen BK327.out 5
     have p333 : 0 ≤ (x8_1 : Int) := of_decide_eq_true (by first | (with_reducible assumption) | assumption)
     have q333 : x8_1 < (((rd_T35 l0 a1_1).f1).length : Int) := of_decide_eq_true (by first | (with_reducible assumption) | assumption)
     obtain ⟨ad333, e333, hx333_0⟩ := Kd.at_int (Kd.C_below HRw.out HB.out) x8_1 p333 q333
     cases e333
     try replace hx333_0 := (HB.out.cell (World.block_lt_of_cell? w _ hx333_0)).trans hx333_0
     replace p333 := eq_true p333
     replace q333 := eq_true q333
     go_wp2_with (first | ((with_reducible refine gate_builtin (b := .append) (xs := #[.tmp 55, .tmp 60]) rfl ?_); (try (refine gate_guard (by rfl) ?_; dsimp only)); at_builtin; refine Kd.R_append (Kd.int .i64) (w0 := w) w.heap.size rfl (.tmp 55) (.tmp 60) 33 3 (.int .i64 0) 8 rfl Try.underlying33 info3 rfl (by decide) (by omega) u7 x7_1 (rd ((rd_T35 l0 a1_1).f1) x8_1) [.int .i64 (rd ((rd_T35 l0 a1_1).f1) x8_1)] (fun k_ => (w.heap.size ≤ k_)) (fun _ => False) rfl rfl ?aP (fun _ hk => hk.elim) ?aF ?aO ?aB ?aS ?aL ?_; (case aP => exact rfl); (case aB => exact (by repeat (first | (with_reducible first | exact HB.out | apply below_alloc | apply pw_below_drewN | apply below_drew1 | refine below_set ?_ GE327.out) | exact HB.out))); (case aF => exact (fun k_ hk => (Nat.le_trans (below_size (by repeat (first | (with_reducible first | exact HB.out | apply below_alloc | apply pw_below_drewN | apply below_drew1 | refine below_set ?_ GE327.out) | exact HB.out))) hk))); (case aO => exact (by (with_reducible repeat (first | apply Kd.R_alloc | apply Kd.R_drewN | apply Kd.R_drew)); exact HO_7.out)); (case aS => exact (below_size (by repeat (first | (with_reducible first | exact HB.out | apply below_alloc | apply pw_below_drewN | apply below_drew1 | refine below_set ?_ GE327.out) | exact HB.out)))); (case aL => have := LMc25.out; omega); intro v335 w27 ho hb hg hat; rw [← Ny334.out] at ho; have n0_ := Aside0.mk (Kd.V_afterv (ok := (fun k_ => (P0_ k_ ∨ w.heap.size ≤ k_) ∧ k_ ≠ gb327)) (by (with_reducible repeat (first | apply Kd.V_alloc | apply Kd.V_drewN | apply Kd.V_drew)); exact Kd.V_mono HO_0.out (fun _ hk => ⟨⟨hk.1, hk.2.2⟩, hk.2.1⟩)) hg hat); have n1_ := Aside0.mk (blk_grown (g := gb327) (o := .cells #[.int .i64 a1_0, .int .i64 a1_1, .int .i64 a1_2, .int .i64 a1_3, .int .i64 a1_4, .int .i64 a1_5] 24 (0, 0)) (by (with_reducible repeat (first | refine blk_drewN ?_ _ | refine blk_drew ?_ | refine blk_alloc ?_ _)); exact BK327.out) hg (by first | exact Kd.R_ne HO_7.out BK327.out (by decide) | exact Kd.R_away HO_7.out (fun _ hk => hk.2) | exact Kd.R_away HO_7.out (fun _ hk => hk) | exact Kd.R_away HO_7.out (fun _ hk => hk.1.2))); have n2_ := Aside0.mk (hb); have n3_ := Aside0.mk (ho); clear HO_0; clear BK327; clear HB; clear HO_7; have HO_0 := n0_; have BK327 := n1_; have HB := n2_; have HO336 := n3_; clear n0_ n1_ n2_ n3_; clear ho hb hg hat))
     go_roundg k1
     case measure => have := HK1.out; omega
     case rel => exact ⟨(y334), (wrap64 (x8_1 + 1)), (by first | rfl | (simp; done) | (simp [*]; done)), H', ⟨by have := HK1.out; omega⟩, ⟨by (with_reducible repeat (first | apply Kd.V_alloc | apply Kd.V_drewN | apply Kd.V_drew)); exact Kd.V_mono HO_0.out (fun _ hk => ⟨hk.1.1, ⟨hk.2, hk.1.2⟩⟩)⟩, ⟨by (with_reducible repeat (first | apply Kd.R_alloc | apply Kd.R_drewN | apply Kd.R_drew)); exact HO336.out⟩, ⟨by (with_reducible repeat (first | refine blk_drewN ?_ _ | refine blk_drew ?_ | refine blk_alloc ?_ _)); exact BK327.out⟩, ⟨by repeat (first | (with_reducible first | exact HB.out | apply below_alloc | apply pw_below_drewN | apply below_drew1 | refine below_set ?_ GE327.out) | exact HB.out)⟩⟩
    rw [if_neg c23] at H
    have c23b0 : decide (a1_4 < x8_1) = false := decide_eq_false c23
    clear c23
    obtain ⟨ji28, hji28⟩ : ∃ j_ : Int, (wrap64 (a1_4 - (wrap64 (x8_1 - a1_2)))) = j_ := ⟨_, rfl⟩
    replace H : (if 0 ≤ (ji28) then (if (ji28) < (((rd_T35 l0 a1_1).f1).length : Int) then (if x7_1.length < 17592186044416 then (haulierref36_turn.l0 k1 l0 ((rd_T35 l0 a1_1).f1) (x7_1 ++ [rd ((rd_T35 l0 a1_1).f1) (ji28)]) (wrap64 (x8_1 + 1)) a1_0 a1_1 a1_2 a1_3 a1_4 a1_5) else (none)) else (none)) else (none)) = some (r1, r2) := by first | (rw [hji28] at H; exact H) | (simp only [hji28] at H ⊢; exact H)
    have hji28w : (IntKind.i64.wrap (a1_4 - (wrap64 (x8_1 - a1_2)))) = ji28 := (i64_w _).trans hji28
    by_cases c29 : 0 ≤ (ji28)
    rotate_left
    ·rw [if_neg c29] at H
     exact absurd H (by simp)
    rw [if_pos c29] at H
    have c29b0 : decide (0 ≤ (ji28)) = true := decide_eq_true c29
    clear c29
    by_cases c30 : (ji28) < (((rd_T35 l0 a1_1).f1).length : Int)
    rotate_left
    ·rw [if_neg c30] at H
     exact absurd H (by simp)
    rw [if_pos c30] at H
    have c30b0 : decide ((ji28) < (((rd_T35 l0 a1_1).f1).length : Int)) = true := decide_eq_true c30
    clear c30
    by_cases c31 : x7_1.length < 17592186044416
    rotate_left
    ·rw [if_neg c31] at H
     exact absurd H (by simp)
    rw [if_pos c31] at H
    have LMc31 := Aside0.mk c31
    clear c31
    obtain ⟨y338, hy338⟩ : ∃ y_ : List Int, y_ = (x7_1 ++ [rd ((rd_T35 l0 a1_1).f1) (ji28)]) := ⟨_, rfl⟩
    replace H : (haulierref36_turn.l0 k1 l0 ((rd_T35 l0 a1_1).f1) y338 (wrap64 (x8_1 + 1)) a1_0 a1_1 a1_2 a1_3 a1_4 a1_5) = some (r1, r2) := by first | (rw [hy338]; with_reducible exact H) | (have H2_ := (Option.bind_some _ _).symm.trans H; rw [hy338]; with_reducible exact H2_) | (have H2_ := (Option.bind_some _ _).symm.trans H; with_reducible exact H2_) | with_reducible exact H | (rw [hy338]; exact H) | exact H
    have Ny338 := Aside0.mk hy338
    clear hy338
    have H' := Aside0.mk H
    clear H
    have hcz32_0 : wr.cell? ⟨gb327, 0, none⟩ = some (.int .i64 a1_0) := (blk_cell BK327.out 0).trans rfl
    have hcz32_1 : wr.cell? ⟨gb327, 1, none⟩ = some (.int .i64 a1_1) := (blk_cell BK327.out 1).trans rfl
    have hcz32_2 : wr.cell? ⟨gb327, 2, none⟩ = some (.int .i64 a1_2) := (blk_cell BK327.out 2).trans rfl
    have hcz32_3 : wr.cell? ⟨gb327, 3, none⟩ = some (.int .i64 a1_3) := (blk_cell BK327.out 3).trans rfl
    have hcz32_4 : wr.cell? ⟨gb327, 4, none⟩ = some (.int .i64 a1_4) := (blk_cell BK327.out 4).trans rfl
    have hcz32_5 : wr.cell? ⟨gb327, 5, none⟩ = some (.int .i64 a1_5) := (blk_cell BK327.out 5).trans rfl
    have hfz32_0 := blk_frozen BK327.out 0
    have hfz32_1 := blk_frozen BK327.out 1
    have hfz32_2 := blk_frozen BK327.out 2
    have hfz32_3 := blk_frozen BK327.out 3
    have hfz32_4 := blk_frozen BK327.out 4
    have hfz32_5 := blk_frozen BK327.out 5
    have p337 : 0 ≤ ((ji28) : Int) := of_decide_eq_true (by first | (with_reducible assumption) | assumption)
    have q337 : (ji28) < (((rd_T35 l0 a1_1).f1).length : Int) := of_decide_eq_true (by first | (with_reducible assumption) | assumption)
    obtain ⟨ad337, e337, hx337_0⟩ := Kd.at_int (Kd.C_below HRw.out HB.out) (ji28) p337 q337
    cases e337
    try replace hx337_0 := (HB.out.cell (World.block_lt_of_cell? w _ hx337_0)).trans hx337_0
    replace p337 := eq_true p337
    replace q337 := eq_true q337
    go_wp2_with (first | ((with_reducible refine gate_builtin (b := .append) (xs := #[.tmp 62, .tmp 73]) rfl ?_); (try (refine gate_guard (by rfl) ?_; dsimp only)); at_builtin; refine Kd.R_append (Kd.int .i64) (w0 := w) w.heap.size rfl (.tmp 62) (.tmp 73) 33 3 (.int .i64 0) 8 rfl Try.underlying33 info3 rfl (by decide) (by omega) u7 x7_1 (rd ((rd_T35 l0 a1_1).f1) (ji28)) [.int .i64 (rd ((rd_T35 l0 a1_1).f1) (ji28))] (fun k_ => (w.heap.size ≤ k_)) (fun _ => False) rfl rfl ?aP (fun _ hk => hk.elim) ?aF ?aO ?aB ?aS ?aL ?_; (case aP => exact rfl); (case aB => exact (by repeat (first | (with_reducible first | exact HB.out | apply below_alloc | apply pw_below_drewN | apply below_drew1 | refine below_set ?_ GE327.out) | exact HB.out))); (case aF => exact (fun k_ hk => (Nat.le_trans (below_size (by repeat (first | (with_reducible first | exact HB.out | apply below_alloc | apply pw_below_drewN | apply below_drew1 | refine below_set ?_ GE327.out) | exact HB.out))) hk))); (case aO => exact (by (with_reducible repeat (first | apply Kd.R_alloc | apply Kd.R_drewN | apply Kd.R_drew)); exact HO_7.out)); (case aS => exact (below_size (by repeat (first | (with_reducible first | exact HB.out | apply below_alloc | apply pw_below_drewN | apply below_drew1 | refine below_set ?_ GE327.out) | exact HB.out)))); (case aL => have := LMc31.out; omega); intro v339 w33 ho hb hg hat; rw [← Ny338.out] at ho; have n0_ := Aside0.mk (Kd.V_afterv (ok := (fun k_ => (P0_ k_ ∨ w.heap.size ≤ k_) ∧ k_ ≠ gb327)) (by (with_reducible repeat (first | apply Kd.V_alloc | apply Kd.V_drewN | apply Kd.V_drew)); exact Kd.V_mono HO_0.out (fun _ hk => ⟨⟨hk.1, hk.2.2⟩, hk.2.1⟩)) hg hat); have n1_ := Aside0.mk (blk_grown (g := gb327) (o := .cells #[.int .i64 a1_0, .int .i64 a1_1, .int .i64 a1_2, .int .i64 a1_3, .int .i64 a1_4, .int .i64 a1_5] 24 (0, 0)) (by (with_reducible repeat (first | refine blk_drewN ?_ _ | refine blk_drew ?_ | refine blk_alloc ?_ _)); exact BK327.out) hg (by first | exact Kd.R_ne HO_7.out BK327.out (by decide) | exact Kd.R_away HO_7.out (fun _ hk => hk.2) | exact Kd.R_away HO_7.out (fun _ hk => hk) | exact Kd.R_away HO_7.out (fun _ hk => hk.1.2))); have n2_ := Aside0.mk (hb); have n3_ := Aside0.mk (ho); clear HO_0; clear BK327; clear HB; clear HO_7; have HO_0 := n0_; have BK327 := n1_; have HB := n2_; have HO340 := n3_; clear n0_ n1_ n2_ n3_; clear ho hb hg hat))
    go_roundg k1
    case measure => have := HK1.out; omega
    case rel => exact ⟨(y338), (wrap64 (x8_1 + 1)), (by first | rfl | (simp; done) | (simp [*]; done)), H', ⟨by have := HK1.out; omega⟩, ⟨by (with_reducible repeat (first | apply Kd.V_alloc | apply Kd.V_drewN | apply Kd.V_drew)); exact Kd.V_mono HO_0.out (fun _ hk => ⟨hk.1.1, ⟨hk.2, hk.1.2⟩⟩)⟩, ⟨by (with_reducible repeat (first | apply Kd.R_alloc | apply Kd.R_drewN | apply Kd.R_drew)); exact HO340.out⟩, ⟨by (with_reducible repeat (first | refine blk_drewN ?_ _ | refine blk_drew ?_ | refine blk_alloc ?_ _)); exact BK327.out⟩, ⟨by repeat (first | (with_reducible first | exact HB.out | apply below_alloc | apply pw_below_drewN | apply below_drew1 | refine below_set ?_ GE327.out) | exact HB.out)⟩⟩
/-! ### haulierref36_made: function 22 -/
def haulierref36_made.f (k : Nat) (l0 : List (S35)) (a1_0 : Int) (a1_1 : Int) (a1_2 : Int) (a1_3 : Int) (a1_4 : Int) (a1_5 : Int) : Option ((List (S35)) × Bool) := if a1_1 < 0 then (some (([] : List (S35)), false)) else (if a1_1 ≥ (l0.length : Int) then (some (([] : List (S35)), false)) else (if a1_3 < 0 then (some (([] : List (S35)), false)) else (if a1_3 ≥ (l0.length : Int) then (some (([] : List (S35)), false)) else (if a1_0 = 3 then (if a1_5 = 2 then ((haulierref36_chain.f k l0 a1_0 a1_1 a1_2 a1_3 a1_4 a1_5 a1_5).bind fun bt345 => (some (bt345.1, bt345.2))) else (if a1_5 = 3 then ((haulierref36_chain.f k l0 a1_0 a1_1 a1_2 a1_3 a1_4 a1_5 a1_5).bind fun bt349 => (some (bt349.1, bt349.2))) else (some (([] : List (S35)), false)))) else (if a1_5 = 0 then (if a1_0 = 1 then ((haulierref36_chain.f k l0 a1_0 a1_1 a1_2 a1_3 a1_4 a1_5 1).bind fun bt353 => (some (bt353.1, bt353.2))) else (if a1_0 = 2 then ((haulierref36_exchange.f k l0 a1_0 a1_1 a1_2 a1_3 a1_4 a1_5).bind fun bt357 => (some (bt357.1, bt357.2))) else (if a1_0 = 4 then ((haulierref36_tails.f k l0 a1_0 a1_1 a1_2 a1_3 a1_4 a1_5).bind fun bt361 => (some (bt361.1, bt361.2))) else (if a1_0 = 5 then ((haulierref36_turn.f k l0 a1_0 a1_1 a1_2 a1_3 a1_4 a1_5).bind fun bt365 => (some (bt365.1, bt365.2))) else (some (([] : List (S35)), false)))))) else (some (([] : List (S35)), false)))))))
theorem haulierref36_made.mono : ∀ a0 a1 a2 a3 a4 a5 a6 k, LeO (haulierref36_made.f k a0 a1 a2 a3 a4 a5 a6) (haulierref36_made.f (k + 1) a0 a1 a2 a3 a4 a5 a6) := by
  intro a0 a1 a2 a3 a4 a5 a6 k
  unfold haulierref36_made.f
  repeat' first
   | (with_reducible exact haulierref36_chain.mono _ _ _ _ _ _ _ _ _)
   | (with_reducible exact haulierref36_exchange.mono _ _ _ _ _ _ _ _)
   | (with_reducible exact haulierref36_tails.mono _ _ _ _ _ _ _ _)
   | (with_reducible exact haulierref36_turn.mono _ _ _ _ _ _ _ _)
   | (with_reducible exact LeO.refl _)
   | (with_reducible exact LeO.none _)
   | (with_reducible refine LeO.ite ?_ ?_)
   | (with_reducible refine LeO.bind ?_ (fun _ => ?_))
   | exact haulierref36_chain.mono _ _ _ _ _ _ _ _ _
   | exact haulierref36_exchange.mono _ _ _ _ _ _ _ _
   | exact haulierref36_tails.mono _ _ _ _ _ _ _ _
   | exact haulierref36_turn.mono _ _ _ _ _ _ _ _
   | exact LeO.none _
   | refine LeO.ite ?_ ?_
   | refine LeO.bind ?_ (fun _ => ?_)
set_option maxHeartbeats 8000000 in
set_option maxRecDepth 100000 in
theorem haulierref36_made.calls (k : Nat) (P0_ : Nat → Prop) (A0 : Option Addr) (c0 : Nat) (l0 : List (S35)) (a1_0 : Int) (a1_1 : Int) (a1_2 : Int) (a1_3 : Int) (a1_4 : Int) (a1_5 : Int) (r1 : List (S35)) (r2 : Bool) (w : World) (hs0 : Kd.V k35 35 w w.heap.size (fun k_ => P0_ k_) (.slice A0 l0.length c0) l0) (h : haulierref36_made.f k l0 a1_0 a1_1 a1_2 a1_3 a1_4 a1_5 = some (r1, r2)) :
    Calls Try.prog 22 #[.slice A0 l0.length c0, .agg #[.int .i64 a1_0, .int .i64 a1_1, .int .i64 a1_2, .int .i64 a1_3, .int .i64 a1_4, .int .i64 a1_5]] w fun e w' => ∃ v0_ : Value, e = .returned (.tuple #[v0_, .bool r2]) ∧ Kd.N k35 35 w' w.heap.size (fun k_ => (P0_ k_ ∨ w.heap.size ≤ k_)) v0_ r1 ∧ Below w.heap.size w w' := by
  have hu24 := Try.underlying24
  have HO0 := Aside0.mk (show Kd.V k35 35 w w.heap.size (fun k_ => (P0_ k_ ∨ w.heap.size ≤ k_)) (.slice A0 l0.length c0) l0 from Kd.V_mono hs0 (fun k_ hk => .inl hk))
  have HB := Aside0.mk (Below.refl w.heap.size w)
  have H : (if a1_1 < 0 then (some (([] : List (S35)), false)) else (if a1_1 ≥ (l0.length : Int) then (some (([] : List (S35)), false)) else (if a1_3 < 0 then (some (([] : List (S35)), false)) else (if a1_3 ≥ (l0.length : Int) then (some (([] : List (S35)), false)) else (if a1_0 = 3 then (if a1_5 = 2 then ((haulierref36_chain.f k l0 a1_0 a1_1 a1_2 a1_3 a1_4 a1_5 a1_5).bind fun bt345 => (some (bt345.1, bt345.2))) else (if a1_5 = 3 then ((haulierref36_chain.f k l0 a1_0 a1_1 a1_2 a1_3 a1_4 a1_5 a1_5).bind fun bt349 => (some (bt349.1, bt349.2))) else (some (([] : List (S35)), false)))) else (if a1_5 = 0 then (if a1_0 = 1 then ((haulierref36_chain.f k l0 a1_0 a1_1 a1_2 a1_3 a1_4 a1_5 1).bind fun bt353 => (some (bt353.1, bt353.2))) else (if a1_0 = 2 then ((haulierref36_exchange.f k l0 a1_0 a1_1 a1_2 a1_3 a1_4 a1_5).bind fun bt357 => (some (bt357.1, bt357.2))) else (if a1_0 = 4 then ((haulierref36_tails.f k l0 a1_0 a1_1 a1_2 a1_3 a1_4 a1_5).bind fun bt361 => (some (bt361.1, bt361.2))) else (if a1_0 = 5 then ((haulierref36_turn.f k l0 a1_0 a1_1 a1_2 a1_3 a1_4 a1_5).bind fun bt365 => (some (bt365.1, bt365.2))) else (some (([] : List (S35)), false)))))) else (some (([] : List (S35)), false)))))))) = some (r1, r2) := h
  clear h
  have no1_ : (((decide (a1_1 < 0) = true)) ∨ ((decide (a1_1 < 0) = false) ∧ (decide ((l0.length : Int) ≤ a1_1) = true)) ∨ ((decide (a1_1 < 0) = false) ∧ (decide ((l0.length : Int) ≤ a1_1) = false) ∧ (decide (a1_3 < 0) = true)) ∨ ((decide (a1_1 < 0) = false) ∧ (decide ((l0.length : Int) ≤ a1_1) = false) ∧ (decide (a1_3 < 0) = false) ∧ (decide ((l0.length : Int) ≤ a1_3) = true)) ∨ ((decide (a1_1 < 0) = false) ∧ (decide ((l0.length : Int) ≤ a1_1) = false) ∧ (decide (a1_3 < 0) = false) ∧ (decide ((l0.length : Int) ≤ a1_3) = false) ∧ ((a1_0 == 3) = true) ∧ ((a1_0 != 3) = false) ∧ ((a1_5 == 2) = false) ∧ ((a1_5 != 2) = true) ∧ ((a1_5 == 3) = false) ∧ ((a1_5 != 3) = true)) ∨ ((decide (a1_1 < 0) = false) ∧ (decide ((l0.length : Int) ≤ a1_1) = false) ∧ (decide (a1_3 < 0) = false) ∧ (decide ((l0.length : Int) ≤ a1_3) = false) ∧ ((a1_0 == 3) = false) ∧ ((a1_0 != 3) = true) ∧ ((a1_5 == 0) = true) ∧ ((a1_5 != 0) = false) ∧ ((a1_0 == 1) = false) ∧ ((a1_0 != 1) = true) ∧ ((a1_0 == 2) = false) ∧ ((a1_0 != 2) = true) ∧ ((a1_0 == 4) = false) ∧ ((a1_0 != 4) = true) ∧ ((a1_0 == 5) = false) ∧ ((a1_0 != 5) = true)) ∨ ((decide (a1_1 < 0) = false) ∧ (decide ((l0.length : Int) ≤ a1_1) = false) ∧ (decide (a1_3 < 0) = false) ∧ (decide ((l0.length : Int) ≤ a1_3) = false) ∧ ((a1_0 == 3) = false) ∧ ((a1_0 != 3) = true) ∧ ((a1_5 == 0) = false) ∧ ((a1_5 != 0) = true))) → Calls Try.prog 22 #[.slice A0 l0.length c0, .agg #[.int .i64 a1_0, .int .i64 a1_1, .int .i64 a1_2, .int .i64 a1_3, .int .i64 a1_4, .int .i64 a1_5]] w fun e w' => ∃ v0_ : Value, e = .returned (.tuple #[v0_, .bool false]) ∧ Kd.N k35 35 w' w.heap.size (fun k_ => (P0_ k_ ∨ w.heap.size ≤ k_)) v0_ ([] : List (S35)) ∧ Below w.heap.size w w' := by
   clear H
   rintro (c3b0 | ⟨c3b0, c6b0⟩ | ⟨c3b0, c6b0, c9b0⟩ | ⟨c3b0, c6b0, c9b0, c12b0⟩ | ⟨c3b0, c6b0, c9b0, c12b0, c15b0, c15b1, c16b0, c16b1, c21b0, c21b1⟩ | ⟨c3b0, c6b0, c9b0, c12b0, c15b0, c15b1, c28b0, c28b1, c29b0, c29b1, c34b0, c34b1, c39b0, c39b1, c44b0, c44b1⟩ | ⟨c3b0, c6b0, c9b0, c12b0, c15b0, c15b1, c28b0, c28b1⟩)
   all_goals
    go_enter Try.func22, Try.ntmps22
    go_wp2_with (first | ((with_reducible refine gate_dst (N := 3) rfl ?_); (try (refine gate_guard (by rfl) ?_; dsimp only)); refine box_event ?hg (N := 3) ?hd (cs := #[.int .i64 a1_0, .int .i64 a1_1, .int .i64 a1_2, .int .i64 a1_3, .int .i64 a1_4, .int .i64 a1_5]) (t := 24) ?hr ?_; (case hd => rfl); (case hg => rfl); (case hr => first | (go_simp; done) | (go_simp; rfl)); intro gb344 hg w4 hbox hb; have n0_ := Aside0.mk (Kd.V_below (Kd.V_elderB (by (with_reducible repeat (first | apply Kd.V_alloc | apply Kd.V_drewN | apply Kd.V_drew)); exact HO0.out) gb344 (Nat.le_of_eq hg.symm)) hb); have n1_ := Aside0.mk (below_step (by repeat (first | (with_reducible first | exact HB.out | apply below_alloc | apply pw_below_drewN | apply below_drew1) | exact HB.out)) hb); have n2_ := Aside0.mk (hbox); have n3_ := Aside0.mk ((by rw [hg]; exact (below_size (by repeat (first | (with_reducible first | exact HB.out | apply below_alloc | apply pw_below_drewN | apply below_drew1) | exact HB.out))) : w.heap.size ≤ gb344)); have n4_ := Aside0.mk ((by rw [hg]; exact (below_size (by repeat (first | (with_reducible first | exact HB.out | apply below_alloc | apply pw_below_drewN | apply below_drew1) | exact HB.out))) : w.heap.size ≤ gb344)); clear HO0; clear HB; have HO0 := n0_; have HB := n1_; have BK344 := n2_; have GW344 := n3_; have GE344 := n4_; clear n0_ n1_ n2_ n3_ n4_; clear hb hbox hg; have hcz5_0 : w4.cell? ⟨gb344, 0, none⟩ = some (.int .i64 a1_0) := (blk_cell BK344.out 0).trans rfl; have hcz5_1 : w4.cell? ⟨gb344, 1, none⟩ = some (.int .i64 a1_1) := (blk_cell BK344.out 1).trans rfl; have hcz5_2 : w4.cell? ⟨gb344, 2, none⟩ = some (.int .i64 a1_2) := (blk_cell BK344.out 2).trans rfl; have hcz5_3 : w4.cell? ⟨gb344, 3, none⟩ = some (.int .i64 a1_3) := (blk_cell BK344.out 3).trans rfl; have hcz5_4 : w4.cell? ⟨gb344, 4, none⟩ = some (.int .i64 a1_4) := (blk_cell BK344.out 4).trans rfl; have hcz5_5 : w4.cell? ⟨gb344, 5, none⟩ = some (.int .i64 a1_5) := (blk_cell BK344.out 5).trans rfl; have hfz5_0 := blk_frozen BK344.out 0; have hfz5_1 := blk_frozen BK344.out 1; have hfz5_2 := blk_frozen BK344.out 2; have hfz5_3 := blk_frozen BK344.out 3; have hfz5_4 := blk_frozen BK344.out 4; have hfz5_5 := blk_frozen BK344.out 5))
    go_ret2
    exact ⟨_, by first | rfl | (simp [errW_none, errW_some] <;> rfl) | (simp [*, errW_none, errW_some] <;> rfl), by first | exact Kd.S_nil _ _ _ _ _ | exact Kd.N_nil _ _ _ _ _ | exact Kd.V_nil _ _ _ _ _ | exact Kd.Q_nil _ _ _ _ _ | exact Kd.R_nil _ _ _ _ _, by repeat (first | (with_reducible first | exact HB.out | apply below_alloc | apply pw_below_drewN | apply below_drew1 | refine below_set ?_ GE344.out) | exact HB.out)⟩
  by_cases c3 : a1_1 < 0
  ·rw [if_pos c3] at H
   have c3b0 : decide (a1_1 < 0) = true := decide_eq_true c3
   clear c3
   simp only [Option.some.injEq, Prod.mk.injEq] at H
   obtain ⟨rfl, rfl⟩ := H
   exact no1_ (.inl c3b0)
  rw [if_neg c3] at H
  have c3b0 : decide (a1_1 < 0) = false := decide_eq_false c3
  clear c3
  by_cases c6 : a1_1 ≥ (l0.length : Int)
  ·rw [if_pos c6] at H
   have c6b0 : decide ((l0.length : Int) ≤ a1_1) = true := decide_eq_true c6
   clear c6
   simp only [Option.some.injEq, Prod.mk.injEq] at H
   obtain ⟨rfl, rfl⟩ := H
   exact no1_ (.inr (.inl ⟨c3b0, c6b0⟩))
  rw [if_neg c6] at H
  have c6b0 : decide ((l0.length : Int) ≤ a1_1) = false := decide_eq_false c6
  clear c6
  by_cases c9 : a1_3 < 0
  ·rw [if_pos c9] at H
   have c9b0 : decide (a1_3 < 0) = true := decide_eq_true c9
   clear c9
   simp only [Option.some.injEq, Prod.mk.injEq] at H
   obtain ⟨rfl, rfl⟩ := H
   exact no1_ (.inr (.inr (.inl ⟨c3b0, c6b0, c9b0⟩)))
  rw [if_neg c9] at H
  have c9b0 : decide (a1_3 < 0) = false := decide_eq_false c9
  clear c9
  by_cases c12 : a1_3 ≥ (l0.length : Int)
  ·rw [if_pos c12] at H
   have c12b0 : decide ((l0.length : Int) ≤ a1_3) = true := decide_eq_true c12
   clear c12
   simp only [Option.some.injEq, Prod.mk.injEq] at H
   obtain ⟨rfl, rfl⟩ := H
   exact no1_ (.inr (.inr (.inr (.inl ⟨c3b0, c6b0, c9b0, c12b0⟩))))
  rw [if_neg c12] at H
  have c12b0 : decide ((l0.length : Int) ≤ a1_3) = false := decide_eq_false c12
  clear c12
  by_cases c15 : a1_0 = 3
  ·rw [if_pos c15] at H
   have c15b0 : (a1_0 == 3) = true := beq_iff_eq.mpr c15
   have c15b1 : (a1_0 != 3) = false := bne_eq_false_iff_eq.mpr c15
   clear c15
   by_cases c16 : a1_5 = 2
   ·rw [if_pos c16] at H
    have c16b0 : (a1_5 == 2) = true := beq_iff_eq.mpr c16
    have c16b1 : (a1_5 != 2) = false := bne_eq_false_iff_eq.mpr c16
    clear c16
    replace H := Option.bind_eq_some_iff.mp H
    obtain ⟨⟨t345, t348⟩, A170, H⟩ := H
    replace H : (some (t345, t348)) = some (r1, r2) := H
    have A17 := Aside0.mk A170
    clear A170
    simp only [Option.some.injEq, Prod.mk.injEq] at H
    obtain ⟨rfl, rfl⟩ := H
    go_enter Try.func22, Try.ntmps22
    go_wp2_with (first | ((with_reducible refine gate_dst (N := 3) rfl ?_); (try (refine gate_guard (by rfl) ?_; dsimp only)); refine box_event ?hg (N := 3) ?hd (cs := #[.int .i64 a1_0, .int .i64 a1_1, .int .i64 a1_2, .int .i64 a1_3, .int .i64 a1_4, .int .i64 a1_5]) (t := 24) ?hr ?_; (case hd => rfl); (case hg => rfl); (case hr => first | (go_simp; done) | (go_simp; rfl)); intro gb344 hg w18 hbox hb; have n0_ := Aside0.mk (Kd.V_below (Kd.V_elderB (by (with_reducible repeat (first | apply Kd.V_alloc | apply Kd.V_drewN | apply Kd.V_drew)); exact HO0.out) gb344 (Nat.le_of_eq hg.symm)) hb); have n1_ := Aside0.mk (below_step (by repeat (first | (with_reducible first | exact HB.out | apply below_alloc | apply pw_below_drewN | apply below_drew1) | exact HB.out)) hb); have n2_ := Aside0.mk (hbox); have n3_ := Aside0.mk ((by rw [hg]; exact (below_size (by repeat (first | (with_reducible first | exact HB.out | apply below_alloc | apply pw_below_drewN | apply below_drew1) | exact HB.out))) : w.heap.size ≤ gb344)); have n4_ := Aside0.mk ((by rw [hg]; exact (below_size (by repeat (first | (with_reducible first | exact HB.out | apply below_alloc | apply pw_below_drewN | apply below_drew1) | exact HB.out))) : w.heap.size ≤ gb344)); clear HO0; clear HB; have HO0 := n0_; have HB := n1_; have BK344 := n2_; have GW344 := n3_; have GE344 := n4_; clear n0_ n1_ n2_ n3_ n4_; clear hb hbox hg; have hcz19_0 : w18.cell? ⟨gb344, 0, none⟩ = some (.int .i64 a1_0) := (blk_cell BK344.out 0).trans rfl; have hcz19_1 : w18.cell? ⟨gb344, 1, none⟩ = some (.int .i64 a1_1) := (blk_cell BK344.out 1).trans rfl; have hcz19_2 : w18.cell? ⟨gb344, 2, none⟩ = some (.int .i64 a1_2) := (blk_cell BK344.out 2).trans rfl; have hcz19_3 : w18.cell? ⟨gb344, 3, none⟩ = some (.int .i64 a1_3) := (blk_cell BK344.out 3).trans rfl; have hcz19_4 : w18.cell? ⟨gb344, 4, none⟩ = some (.int .i64 a1_4) := (blk_cell BK344.out 4).trans rfl; have hcz19_5 : w18.cell? ⟨gb344, 5, none⟩ = some (.int .i64 a1_5) := (blk_cell BK344.out 5).trans rfl; have hfz19_0 := blk_frozen BK344.out 0; have hfz19_1 := blk_frozen BK344.out 1; have hfz19_2 := blk_frozen BK344.out 2; have hfz19_3 := blk_frozen BK344.out 3; have hfz19_4 := blk_frozen BK344.out 4; have hfz19_5 := blk_frozen BK344.out 5) | ((with_reducible refine gate_callee (f := 33) rfl ?_); refine goesL_ (some 43) rfl rfl Try.func33 (by kernel_rfl) rfl #[.slice A0 l0.length c0, .agg #[.int .i64 a1_0, .int .i64 a1_1, .int .i64 a1_2, .int .i64 a1_3, .int .i64 a1_4, .int .i64 a1_5], .int .i64 a1_5] rfl (by (try simp only [List.map_toArray, List.map_cons, List.map_nil]); first | done | rfl | (simp only [List.length_drop, List.length_take]; rfl)) ?_; (with_reducible refine (haulierref36_chain.calls k (fun k_ => ((P0_ k_ ∨ w.heap.size ≤ k_) ∧ k_ ≠ gb344)) _ _ l0 a1_0 a1_1 a1_2 a1_3 a1_4 a1_5 a1_5 t345 t348 _ ?side1 A17.out).mono ?_); (case side1 => exact HO0.out); rintro e w20 ⟨v346, rfl, ho0, hb⟩; refine ⟨_, rfl, ?_⟩; have n0_ := Aside0.mk (Kd.V_elder' (by (with_reducible repeat (first | apply Kd.V_alloc | apply Kd.V_drewN | apply Kd.V_drew)); exact HO0.out) (Kd.N_base ho0) hb); have n1_ := Aside0.mk (Kd.N_lower (Kd.N_mono (ok' := fun k_ => (P0_ k_ ∨ w.heap.size ≤ k_) ∧ k_ ≠ gb344) ho0 (fun k_ hk_ => ⟨Or.elim hk_ (fun hs_ => hs_.1) (fun hn_ => (.inr (Nat.le_trans (below_size (by repeat (first | (with_reducible first | exact HB.out | apply below_alloc | apply pw_below_drewN | apply below_drew1 | refine below_set ?_ GE344.out) | exact HB.out))) hn_))), Or.elim hk_ (fun hs_ => hs_.2) (fun hn_ => (Kd.freshB (g := gb344) (o := .cells #[.int .i64 a1_0, .int .i64 a1_1, .int .i64 a1_2, .int .i64 a1_3, .int .i64 a1_4, .int .i64 a1_5] 24 (0, 0)) (by (with_reducible repeat (first | refine blk_drewN ?_ _ | refine blk_drew ?_ | refine blk_alloc ?_ _)); exact BK344.out) k_ hn_))⟩)) (below_size (by repeat (first | (with_reducible first | exact HB.out | apply below_alloc | apply pw_below_drewN | apply below_drew1 | refine below_set ?_ GE344.out) | exact HB.out)))); have n2_ := Aside0.mk (blk_below (g := gb344) (o := .cells #[.int .i64 a1_0, .int .i64 a1_1, .int .i64 a1_2, .int .i64 a1_3, .int .i64 a1_4, .int .i64 a1_5] 24 (0, 0)) (by (with_reducible repeat (first | refine blk_drewN ?_ _ | refine blk_drew ?_ | refine blk_alloc ?_ _)); exact BK344.out) hb); have n3_ := Aside0.mk (below_step (by repeat (first | (with_reducible first | exact HB.out | apply below_alloc | apply pw_below_drewN | apply below_drew1 | refine below_set ?_ GE344.out) | exact HB.out)) hb); clear HO0; clear BK344; clear HB; have HO0 := n0_; have HO347 := n1_; have BK344 := n2_; have HB := n3_; clear n0_ n1_ n2_ n3_; (try clear hb); (try clear hb2); (try clear hk); (try clear hi); (try clear ho0)))
    go_ret2
    exact ⟨_, by first | rfl | (simp [errW_none, errW_some] <;> rfl) | (simp [*, errW_none, errW_some] <;> rfl), by (with_reducible repeat (first | apply Kd.N_alloc | apply Kd.N_drewN | apply Kd.N_drew)); exact Kd.N_mono HO347.out (fun _ hk => hk.1), by repeat (first | (with_reducible first | exact HB.out | apply below_alloc | apply pw_below_drewN | apply below_drew1 | refine below_set ?_ GE344.out) | exact HB.out)⟩
   rw [if_neg c16] at H
   have c16b0 : (a1_5 == 2) = false := beq_eq_false_iff_ne.mpr c16
   have c16b1 : (a1_5 != 2) = true := bne_iff_ne.mpr c16
   by_cases c21 : a1_5 = 3
   rotate_left
   ·rw [if_neg c21] at H
    have c21b0 : (a1_5 == 3) = false := beq_eq_false_iff_ne.mpr c21
    have c21b1 : (a1_5 != 3) = true := bne_iff_ne.mpr c21
    simp only [Option.some.injEq, Prod.mk.injEq] at H
    obtain ⟨rfl, rfl⟩ := H
    exact no1_ (.inr (.inr (.inr (.inr (.inl ⟨c3b0, c6b0, c9b0, c12b0, c15b0, c15b1, c16b0, c16b1, c21b0, c21b1⟩)))))
   rw [if_pos c21] at H
   have c21b0 : (a1_5 == 3) = true := beq_iff_eq.mpr c21
   have c21b1 : (a1_5 != 3) = false := bne_eq_false_iff_eq.mpr c21
   clear c21
   replace H := Option.bind_eq_some_iff.mp H
   obtain ⟨⟨t349, t352⟩, A220, H⟩ := H
   replace H : (some (t349, t352)) = some (r1, r2) := H
   have A22 := Aside0.mk A220
   clear A220
   simp only [Option.some.injEq, Prod.mk.injEq] at H
   obtain ⟨rfl, rfl⟩ := H
   go_enter Try.func22, Try.ntmps22
   go_wp2_with (first | ((with_reducible refine gate_dst (N := 3) rfl ?_); (try (refine gate_guard (by rfl) ?_; dsimp only)); refine box_event ?hg (N := 3) ?hd (cs := #[.int .i64 a1_0, .int .i64 a1_1, .int .i64 a1_2, .int .i64 a1_3, .int .i64 a1_4, .int .i64 a1_5]) (t := 24) ?hr ?_; (case hd => rfl); (case hg => rfl); (case hr => first | (go_simp; done) | (go_simp; rfl)); intro gb344 hg w23 hbox hb; have n0_ := Aside0.mk (Kd.V_below (Kd.V_elderB (by (with_reducible repeat (first | apply Kd.V_alloc | apply Kd.V_drewN | apply Kd.V_drew)); exact HO0.out) gb344 (Nat.le_of_eq hg.symm)) hb); have n1_ := Aside0.mk (below_step (by repeat (first | (with_reducible first | exact HB.out | apply below_alloc | apply pw_below_drewN | apply below_drew1) | exact HB.out)) hb); have n2_ := Aside0.mk (hbox); have n3_ := Aside0.mk ((by rw [hg]; exact (below_size (by repeat (first | (with_reducible first | exact HB.out | apply below_alloc | apply pw_below_drewN | apply below_drew1) | exact HB.out))) : w.heap.size ≤ gb344)); have n4_ := Aside0.mk ((by rw [hg]; exact (below_size (by repeat (first | (with_reducible first | exact HB.out | apply below_alloc | apply pw_below_drewN | apply below_drew1) | exact HB.out))) : w.heap.size ≤ gb344)); clear HO0; clear HB; have HO0 := n0_; have HB := n1_; have BK344 := n2_; have GW344 := n3_; have GE344 := n4_; clear n0_ n1_ n2_ n3_ n4_; clear hb hbox hg; have hcz24_0 : w23.cell? ⟨gb344, 0, none⟩ = some (.int .i64 a1_0) := (blk_cell BK344.out 0).trans rfl; have hcz24_1 : w23.cell? ⟨gb344, 1, none⟩ = some (.int .i64 a1_1) := (blk_cell BK344.out 1).trans rfl; have hcz24_2 : w23.cell? ⟨gb344, 2, none⟩ = some (.int .i64 a1_2) := (blk_cell BK344.out 2).trans rfl; have hcz24_3 : w23.cell? ⟨gb344, 3, none⟩ = some (.int .i64 a1_3) := (blk_cell BK344.out 3).trans rfl; have hcz24_4 : w23.cell? ⟨gb344, 4, none⟩ = some (.int .i64 a1_4) := (blk_cell BK344.out 4).trans rfl; have hcz24_5 : w23.cell? ⟨gb344, 5, none⟩ = some (.int .i64 a1_5) := (blk_cell BK344.out 5).trans rfl; have hfz24_0 := blk_frozen BK344.out 0; have hfz24_1 := blk_frozen BK344.out 1; have hfz24_2 := blk_frozen BK344.out 2; have hfz24_3 := blk_frozen BK344.out 3; have hfz24_4 := blk_frozen BK344.out 4; have hfz24_5 := blk_frozen BK344.out 5) | ((with_reducible refine gate_callee (f := 33) rfl ?_); refine goesL_ (some 43) rfl rfl Try.func33 (by kernel_rfl) rfl #[.slice A0 l0.length c0, .agg #[.int .i64 a1_0, .int .i64 a1_1, .int .i64 a1_2, .int .i64 a1_3, .int .i64 a1_4, .int .i64 a1_5], .int .i64 a1_5] rfl (by (try simp only [List.map_toArray, List.map_cons, List.map_nil]); first | done | rfl | (simp only [List.length_drop, List.length_take]; rfl)) ?_; (with_reducible refine (haulierref36_chain.calls k (fun k_ => ((P0_ k_ ∨ w.heap.size ≤ k_) ∧ k_ ≠ gb344)) _ _ l0 a1_0 a1_1 a1_2 a1_3 a1_4 a1_5 a1_5 t349 t352 _ ?side1 A22.out).mono ?_); (case side1 => exact HO0.out); rintro e w25 ⟨v350, rfl, ho0, hb⟩; refine ⟨_, rfl, ?_⟩; have n0_ := Aside0.mk (Kd.V_elder' (by (with_reducible repeat (first | apply Kd.V_alloc | apply Kd.V_drewN | apply Kd.V_drew)); exact HO0.out) (Kd.N_base ho0) hb); have n1_ := Aside0.mk (Kd.N_lower (Kd.N_mono (ok' := fun k_ => (P0_ k_ ∨ w.heap.size ≤ k_) ∧ k_ ≠ gb344) ho0 (fun k_ hk_ => ⟨Or.elim hk_ (fun hs_ => hs_.1) (fun hn_ => (.inr (Nat.le_trans (below_size (by repeat (first | (with_reducible first | exact HB.out | apply below_alloc | apply pw_below_drewN | apply below_drew1 | refine below_set ?_ GE344.out) | exact HB.out))) hn_))), Or.elim hk_ (fun hs_ => hs_.2) (fun hn_ => (Kd.freshB (g := gb344) (o := .cells #[.int .i64 a1_0, .int .i64 a1_1, .int .i64 a1_2, .int .i64 a1_3, .int .i64 a1_4, .int .i64 a1_5] 24 (0, 0)) (by (with_reducible repeat (first | refine blk_drewN ?_ _ | refine blk_drew ?_ | refine blk_alloc ?_ _)); exact BK344.out) k_ hn_))⟩)) (below_size (by repeat (first | (with_reducible first | exact HB.out | apply below_alloc | apply pw_below_drewN | apply below_drew1 | refine below_set ?_ GE344.out) | exact HB.out)))); have n2_ := Aside0.mk (blk_below (g := gb344) (o := .cells #[.int .i64 a1_0, .int .i64 a1_1, .int .i64 a1_2, .int .i64 a1_3, .int .i64 a1_4, .int .i64 a1_5] 24 (0, 0)) (by (with_reducible repeat (first | refine blk_drewN ?_ _ | refine blk_drew ?_ | refine blk_alloc ?_ _)); exact BK344.out) hb); have n3_ := Aside0.mk (below_step (by repeat (first | (with_reducible first | exact HB.out | apply below_alloc | apply pw_below_drewN | apply below_drew1 | refine below_set ?_ GE344.out) | exact HB.out)) hb); clear HO0; clear BK344; clear HB; have HO0 := n0_; have HO351 := n1_; have BK344 := n2_; have HB := n3_; clear n0_ n1_ n2_ n3_; (try clear hb); (try clear hb2); (try clear hk); (try clear hi); (try clear ho0)))
   go_ret2
   exact ⟨_, by first | rfl | (simp [errW_none, errW_some] <;> rfl) | (simp [*, errW_none, errW_some] <;> rfl), by (with_reducible repeat (first | apply Kd.N_alloc | apply Kd.N_drewN | apply Kd.N_drew)); exact Kd.N_mono HO351.out (fun _ hk => hk.1), by repeat (first | (with_reducible first | exact HB.out | apply below_alloc | apply pw_below_drewN | apply below_drew1 | refine below_set ?_ GE344.out) | exact HB.out)⟩
  rw [if_neg c15] at H
  have c15b0 : (a1_0 == 3) = false := beq_eq_false_iff_ne.mpr c15
  have c15b1 : (a1_0 != 3) = true := bne_iff_ne.mpr c15
  by_cases c28 : a1_5 = 0
  rotate_left
  ·rw [if_neg c28] at H
   have c28b0 : (a1_5 == 0) = false := beq_eq_false_iff_ne.mpr c28
   have c28b1 : (a1_5 != 0) = true := bne_iff_ne.mpr c28
   simp only [Option.some.injEq, Prod.mk.injEq] at H
   obtain ⟨rfl, rfl⟩ := H
   exact no1_ (.inr (.inr (.inr (.inr (.inr (.inr (⟨c3b0, c6b0, c9b0, c12b0, c15b0, c15b1, c28b0, c28b1⟩)))))))
  rw [if_pos c28] at H
  have c28b0 : (a1_5 == 0) = true := beq_iff_eq.mpr c28
  have c28b1 : (a1_5 != 0) = false := bne_eq_false_iff_eq.mpr c28
  clear c28
  by_cases c29 : a1_0 = 1
  ·rw [if_pos c29] at H
   have c29b0 : (a1_0 == 1) = true := beq_iff_eq.mpr c29
   have c29b1 : (a1_0 != 1) = false := bne_eq_false_iff_eq.mpr c29
   clear c29
   replace H := Option.bind_eq_some_iff.mp H
   obtain ⟨⟨t353, t356⟩, A300, H⟩ := H
   replace H : (some (t353, t356)) = some (r1, r2) := H
   have A30 := Aside0.mk A300
   clear A300
   simp only [Option.some.injEq, Prod.mk.injEq] at H
   obtain ⟨rfl, rfl⟩ := H
   go_enter Try.func22, Try.ntmps22
   go_wp2_with (first | ((with_reducible refine gate_dst (N := 3) rfl ?_); (try (refine gate_guard (by rfl) ?_; dsimp only)); refine box_event ?hg (N := 3) ?hd (cs := #[.int .i64 a1_0, .int .i64 a1_1, .int .i64 a1_2, .int .i64 a1_3, .int .i64 a1_4, .int .i64 a1_5]) (t := 24) ?hr ?_; (case hd => rfl); (case hg => rfl); (case hr => first | (go_simp; done) | (go_simp; rfl)); intro gb344 hg w31 hbox hb; have n0_ := Aside0.mk (Kd.V_below (Kd.V_elderB (by (with_reducible repeat (first | apply Kd.V_alloc | apply Kd.V_drewN | apply Kd.V_drew)); exact HO0.out) gb344 (Nat.le_of_eq hg.symm)) hb); have n1_ := Aside0.mk (below_step (by repeat (first | (with_reducible first | exact HB.out | apply below_alloc | apply pw_below_drewN | apply below_drew1) | exact HB.out)) hb); have n2_ := Aside0.mk (hbox); have n3_ := Aside0.mk ((by rw [hg]; exact (below_size (by repeat (first | (with_reducible first | exact HB.out | apply below_alloc | apply pw_below_drewN | apply below_drew1) | exact HB.out))) : w.heap.size ≤ gb344)); have n4_ := Aside0.mk ((by rw [hg]; exact (below_size (by repeat (first | (with_reducible first | exact HB.out | apply below_alloc | apply pw_below_drewN | apply below_drew1) | exact HB.out))) : w.heap.size ≤ gb344)); clear HO0; clear HB; have HO0 := n0_; have HB := n1_; have BK344 := n2_; have GW344 := n3_; have GE344 := n4_; clear n0_ n1_ n2_ n3_ n4_; clear hb hbox hg; have hcz32_0 : w31.cell? ⟨gb344, 0, none⟩ = some (.int .i64 a1_0) := (blk_cell BK344.out 0).trans rfl; have hcz32_1 : w31.cell? ⟨gb344, 1, none⟩ = some (.int .i64 a1_1) := (blk_cell BK344.out 1).trans rfl; have hcz32_2 : w31.cell? ⟨gb344, 2, none⟩ = some (.int .i64 a1_2) := (blk_cell BK344.out 2).trans rfl; have hcz32_3 : w31.cell? ⟨gb344, 3, none⟩ = some (.int .i64 a1_3) := (blk_cell BK344.out 3).trans rfl; have hcz32_4 : w31.cell? ⟨gb344, 4, none⟩ = some (.int .i64 a1_4) := (blk_cell BK344.out 4).trans rfl; have hcz32_5 : w31.cell? ⟨gb344, 5, none⟩ = some (.int .i64 a1_5) := (blk_cell BK344.out 5).trans rfl; have hfz32_0 := blk_frozen BK344.out 0; have hfz32_1 := blk_frozen BK344.out 1; have hfz32_2 := blk_frozen BK344.out 2; have hfz32_3 := blk_frozen BK344.out 3; have hfz32_4 := blk_frozen BK344.out 4; have hfz32_5 := blk_frozen BK344.out 5) | ((with_reducible refine gate_callee (f := 33) rfl ?_); refine goesL_ (some 55) rfl rfl Try.func33 (by kernel_rfl) rfl #[.slice A0 l0.length c0, .agg #[.int .i64 a1_0, .int .i64 a1_1, .int .i64 a1_2, .int .i64 a1_3, .int .i64 a1_4, .int .i64 a1_5], .int .i64 1] rfl (by (try simp only [List.map_toArray, List.map_cons, List.map_nil]); first | done | rfl | (simp only [List.length_drop, List.length_take]; rfl)) ?_; (with_reducible refine (haulierref36_chain.calls k (fun k_ => ((P0_ k_ ∨ w.heap.size ≤ k_) ∧ k_ ≠ gb344)) _ _ l0 a1_0 a1_1 a1_2 a1_3 a1_4 a1_5 1 t353 t356 _ ?side1 A30.out).mono ?_); (case side1 => exact HO0.out); rintro e w33 ⟨v354, rfl, ho0, hb⟩; refine ⟨_, rfl, ?_⟩; have n0_ := Aside0.mk (Kd.V_elder' (by (with_reducible repeat (first | apply Kd.V_alloc | apply Kd.V_drewN | apply Kd.V_drew)); exact HO0.out) (Kd.N_base ho0) hb); have n1_ := Aside0.mk (Kd.N_lower (Kd.N_mono (ok' := fun k_ => (P0_ k_ ∨ w.heap.size ≤ k_) ∧ k_ ≠ gb344) ho0 (fun k_ hk_ => ⟨Or.elim hk_ (fun hs_ => hs_.1) (fun hn_ => (.inr (Nat.le_trans (below_size (by repeat (first | (with_reducible first | exact HB.out | apply below_alloc | apply pw_below_drewN | apply below_drew1 | refine below_set ?_ GE344.out) | exact HB.out))) hn_))), Or.elim hk_ (fun hs_ => hs_.2) (fun hn_ => (Kd.freshB (g := gb344) (o := .cells #[.int .i64 a1_0, .int .i64 a1_1, .int .i64 a1_2, .int .i64 a1_3, .int .i64 a1_4, .int .i64 a1_5] 24 (0, 0)) (by (with_reducible repeat (first | refine blk_drewN ?_ _ | refine blk_drew ?_ | refine blk_alloc ?_ _)); exact BK344.out) k_ hn_))⟩)) (below_size (by repeat (first | (with_reducible first | exact HB.out | apply below_alloc | apply pw_below_drewN | apply below_drew1 | refine below_set ?_ GE344.out) | exact HB.out)))); have n2_ := Aside0.mk (blk_below (g := gb344) (o := .cells #[.int .i64 a1_0, .int .i64 a1_1, .int .i64 a1_2, .int .i64 a1_3, .int .i64 a1_4, .int .i64 a1_5] 24 (0, 0)) (by (with_reducible repeat (first | refine blk_drewN ?_ _ | refine blk_drew ?_ | refine blk_alloc ?_ _)); exact BK344.out) hb); have n3_ := Aside0.mk (below_step (by repeat (first | (with_reducible first | exact HB.out | apply below_alloc | apply pw_below_drewN | apply below_drew1 | refine below_set ?_ GE344.out) | exact HB.out)) hb); clear HO0; clear BK344; clear HB; have HO0 := n0_; have HO355 := n1_; have BK344 := n2_; have HB := n3_; clear n0_ n1_ n2_ n3_; (try clear hb); (try clear hb2); (try clear hk); (try clear hi); (try clear ho0)))
   go_ret2
   exact ⟨_, by first | rfl | (simp [errW_none, errW_some] <;> rfl) | (simp [*, errW_none, errW_some] <;> rfl), by (with_reducible repeat (first | apply Kd.N_alloc | apply Kd.N_drewN | apply Kd.N_drew)); exact Kd.N_mono HO355.out (fun _ hk => hk.1), by repeat (first | (with_reducible first | exact HB.out | apply below_alloc | apply pw_below_drewN | apply below_drew1 | refine below_set ?_ GE344.out) | exact HB.out)⟩
  rw [if_neg c29] at H
  have c29b0 : (a1_0 == 1) = false := beq_eq_false_iff_ne.mpr c29
  have c29b1 : (a1_0 != 1) = true := bne_iff_ne.mpr c29
  by_cases c34 : a1_0 = 2
  ·rw [if_pos c34] at H
   have c34b0 : (a1_0 == 2) = true := beq_iff_eq.mpr c34
   have c34b1 : (a1_0 != 2) = false := bne_eq_false_iff_eq.mpr c34
   clear c34
   replace H := Option.bind_eq_some_iff.mp H
   obtain ⟨⟨t357, t360⟩, A350, H⟩ := H
   replace H : (some (t357, t360)) = some (r1, r2) := H
   have A35 := Aside0.mk A350
   clear A350
   simp only [Option.some.injEq, Prod.mk.injEq] at H
   obtain ⟨rfl, rfl⟩ := H
   go_enter Try.func22, Try.ntmps22
   go_wp2_with (first | ((with_reducible refine gate_dst (N := 3) rfl ?_); (try (refine gate_guard (by rfl) ?_; dsimp only)); refine box_event ?hg (N := 3) ?hd (cs := #[.int .i64 a1_0, .int .i64 a1_1, .int .i64 a1_2, .int .i64 a1_3, .int .i64 a1_4, .int .i64 a1_5]) (t := 24) ?hr ?_; (case hd => rfl); (case hg => rfl); (case hr => first | (go_simp; done) | (go_simp; rfl)); intro gb344 hg w36 hbox hb; have n0_ := Aside0.mk (Kd.V_below (Kd.V_elderB (by (with_reducible repeat (first | apply Kd.V_alloc | apply Kd.V_drewN | apply Kd.V_drew)); exact HO0.out) gb344 (Nat.le_of_eq hg.symm)) hb); have n1_ := Aside0.mk (below_step (by repeat (first | (with_reducible first | exact HB.out | apply below_alloc | apply pw_below_drewN | apply below_drew1) | exact HB.out)) hb); have n2_ := Aside0.mk (hbox); have n3_ := Aside0.mk ((by rw [hg]; exact (below_size (by repeat (first | (with_reducible first | exact HB.out | apply below_alloc | apply pw_below_drewN | apply below_drew1) | exact HB.out))) : w.heap.size ≤ gb344)); have n4_ := Aside0.mk ((by rw [hg]; exact (below_size (by repeat (first | (with_reducible first | exact HB.out | apply below_alloc | apply pw_below_drewN | apply below_drew1) | exact HB.out))) : w.heap.size ≤ gb344)); clear HO0; clear HB; have HO0 := n0_; have HB := n1_; have BK344 := n2_; have GW344 := n3_; have GE344 := n4_; clear n0_ n1_ n2_ n3_ n4_; clear hb hbox hg; have hcz37_0 : w36.cell? ⟨gb344, 0, none⟩ = some (.int .i64 a1_0) := (blk_cell BK344.out 0).trans rfl; have hcz37_1 : w36.cell? ⟨gb344, 1, none⟩ = some (.int .i64 a1_1) := (blk_cell BK344.out 1).trans rfl; have hcz37_2 : w36.cell? ⟨gb344, 2, none⟩ = some (.int .i64 a1_2) := (blk_cell BK344.out 2).trans rfl; have hcz37_3 : w36.cell? ⟨gb344, 3, none⟩ = some (.int .i64 a1_3) := (blk_cell BK344.out 3).trans rfl; have hcz37_4 : w36.cell? ⟨gb344, 4, none⟩ = some (.int .i64 a1_4) := (blk_cell BK344.out 4).trans rfl; have hcz37_5 : w36.cell? ⟨gb344, 5, none⟩ = some (.int .i64 a1_5) := (blk_cell BK344.out 5).trans rfl; have hfz37_0 := blk_frozen BK344.out 0; have hfz37_1 := blk_frozen BK344.out 1; have hfz37_2 := blk_frozen BK344.out 2; have hfz37_3 := blk_frozen BK344.out 3; have hfz37_4 := blk_frozen BK344.out 4; have hfz37_5 := blk_frozen BK344.out 5) | ((with_reducible refine gate_callee (f := 34) rfl ?_); refine goesL_ (some 62) rfl rfl Try.func34 (by kernel_rfl) rfl #[.slice A0 l0.length c0, .agg #[.int .i64 a1_0, .int .i64 a1_1, .int .i64 a1_2, .int .i64 a1_3, .int .i64 a1_4, .int .i64 a1_5]] rfl (by (try simp only [List.map_toArray, List.map_cons, List.map_nil]); first | done | rfl | (simp only [List.length_drop, List.length_take]; rfl)) ?_; (with_reducible refine (haulierref36_exchange.calls k (fun k_ => ((P0_ k_ ∨ w.heap.size ≤ k_) ∧ k_ ≠ gb344)) _ _ l0 a1_0 a1_1 a1_2 a1_3 a1_4 a1_5 t357 t360 _ ?side1 A35.out).mono ?_); (case side1 => exact HO0.out); rintro e w38 ⟨v358, rfl, ho0, hb⟩; refine ⟨_, rfl, ?_⟩; have n0_ := Aside0.mk (Kd.V_elder' (by (with_reducible repeat (first | apply Kd.V_alloc | apply Kd.V_drewN | apply Kd.V_drew)); exact HO0.out) (Kd.N_base ho0) hb); have n1_ := Aside0.mk (Kd.N_lower (Kd.N_mono (ok' := fun k_ => (P0_ k_ ∨ w.heap.size ≤ k_) ∧ k_ ≠ gb344) ho0 (fun k_ hk_ => ⟨Or.elim hk_ (fun hs_ => hs_.1) (fun hn_ => (.inr (Nat.le_trans (below_size (by repeat (first | (with_reducible first | exact HB.out | apply below_alloc | apply pw_below_drewN | apply below_drew1 | refine below_set ?_ GE344.out) | exact HB.out))) hn_))), Or.elim hk_ (fun hs_ => hs_.2) (fun hn_ => (Kd.freshB (g := gb344) (o := .cells #[.int .i64 a1_0, .int .i64 a1_1, .int .i64 a1_2, .int .i64 a1_3, .int .i64 a1_4, .int .i64 a1_5] 24 (0, 0)) (by (with_reducible repeat (first | refine blk_drewN ?_ _ | refine blk_drew ?_ | refine blk_alloc ?_ _)); exact BK344.out) k_ hn_))⟩)) (below_size (by repeat (first | (with_reducible first | exact HB.out | apply below_alloc | apply pw_below_drewN | apply below_drew1 | refine below_set ?_ GE344.out) | exact HB.out)))); have n2_ := Aside0.mk (blk_below (g := gb344) (o := .cells #[.int .i64 a1_0, .int .i64 a1_1, .int .i64 a1_2, .int .i64 a1_3, .int .i64 a1_4, .int .i64 a1_5] 24 (0, 0)) (by (with_reducible repeat (first | refine blk_drewN ?_ _ | refine blk_drew ?_ | refine blk_alloc ?_ _)); exact BK344.out) hb); have n3_ := Aside0.mk (below_step (by repeat (first | (with_reducible first | exact HB.out | apply below_alloc | apply pw_below_drewN | apply below_drew1 | refine below_set ?_ GE344.out) | exact HB.out)) hb); clear HO0; clear BK344; clear HB; have HO0 := n0_; have HO359 := n1_; have BK344 := n2_; have HB := n3_; clear n0_ n1_ n2_ n3_; (try clear hb); (try clear hb2); (try clear hk); (try clear hi); (try clear ho0)))
   go_ret2
   exact ⟨_, by first | rfl | (simp [errW_none, errW_some] <;> rfl) | (simp [*, errW_none, errW_some] <;> rfl), by (with_reducible repeat (first | apply Kd.N_alloc | apply Kd.N_drewN | apply Kd.N_drew)); exact Kd.N_mono HO359.out (fun _ hk => hk.1), by repeat (first | (with_reducible first | exact HB.out | apply below_alloc | apply pw_below_drewN | apply below_drew1 | refine below_set ?_ GE344.out) | exact HB.out)⟩
  rw [if_neg c34] at H
  have c34b0 : (a1_0 == 2) = false := beq_eq_false_iff_ne.mpr c34
  have c34b1 : (a1_0 != 2) = true := bne_iff_ne.mpr c34
  by_cases c39 : a1_0 = 4
  ·rw [if_pos c39] at H
   have c39b0 : (a1_0 == 4) = true := beq_iff_eq.mpr c39
   have c39b1 : (a1_0 != 4) = false := bne_eq_false_iff_eq.mpr c39
   clear c39
   replace H := Option.bind_eq_some_iff.mp H
   obtain ⟨⟨t361, t364⟩, A400, H⟩ := H
   replace H : (some (t361, t364)) = some (r1, r2) := H
   have A40 := Aside0.mk A400
   clear A400
   simp only [Option.some.injEq, Prod.mk.injEq] at H
   obtain ⟨rfl, rfl⟩ := H
   go_enter Try.func22, Try.ntmps22
   go_wp2_with (first | ((with_reducible refine gate_dst (N := 3) rfl ?_); (try (refine gate_guard (by rfl) ?_; dsimp only)); refine box_event ?hg (N := 3) ?hd (cs := #[.int .i64 a1_0, .int .i64 a1_1, .int .i64 a1_2, .int .i64 a1_3, .int .i64 a1_4, .int .i64 a1_5]) (t := 24) ?hr ?_; (case hd => rfl); (case hg => rfl); (case hr => first | (go_simp; done) | (go_simp; rfl)); intro gb344 hg w41 hbox hb; have n0_ := Aside0.mk (Kd.V_below (Kd.V_elderB (by (with_reducible repeat (first | apply Kd.V_alloc | apply Kd.V_drewN | apply Kd.V_drew)); exact HO0.out) gb344 (Nat.le_of_eq hg.symm)) hb); have n1_ := Aside0.mk (below_step (by repeat (first | (with_reducible first | exact HB.out | apply below_alloc | apply pw_below_drewN | apply below_drew1) | exact HB.out)) hb); have n2_ := Aside0.mk (hbox); have n3_ := Aside0.mk ((by rw [hg]; exact (below_size (by repeat (first | (with_reducible first | exact HB.out | apply below_alloc | apply pw_below_drewN | apply below_drew1) | exact HB.out))) : w.heap.size ≤ gb344)); have n4_ := Aside0.mk ((by rw [hg]; exact (below_size (by repeat (first | (with_reducible first | exact HB.out | apply below_alloc | apply pw_below_drewN | apply below_drew1) | exact HB.out))) : w.heap.size ≤ gb344)); clear HO0; clear HB; have HO0 := n0_; have HB := n1_; have BK344 := n2_; have GW344 := n3_; have GE344 := n4_; clear n0_ n1_ n2_ n3_ n4_; clear hb hbox hg; have hcz42_0 : w41.cell? ⟨gb344, 0, none⟩ = some (.int .i64 a1_0) := (blk_cell BK344.out 0).trans rfl; have hcz42_1 : w41.cell? ⟨gb344, 1, none⟩ = some (.int .i64 a1_1) := (blk_cell BK344.out 1).trans rfl; have hcz42_2 : w41.cell? ⟨gb344, 2, none⟩ = some (.int .i64 a1_2) := (blk_cell BK344.out 2).trans rfl; have hcz42_3 : w41.cell? ⟨gb344, 3, none⟩ = some (.int .i64 a1_3) := (blk_cell BK344.out 3).trans rfl; have hcz42_4 : w41.cell? ⟨gb344, 4, none⟩ = some (.int .i64 a1_4) := (blk_cell BK344.out 4).trans rfl; have hcz42_5 : w41.cell? ⟨gb344, 5, none⟩ = some (.int .i64 a1_5) := (blk_cell BK344.out 5).trans rfl; have hfz42_0 := blk_frozen BK344.out 0; have hfz42_1 := blk_frozen BK344.out 1; have hfz42_2 := blk_frozen BK344.out 2; have hfz42_3 := blk_frozen BK344.out 3; have hfz42_4 := blk_frozen BK344.out 4; have hfz42_5 := blk_frozen BK344.out 5) | ((with_reducible refine gate_callee (f := 35) rfl ?_); refine goesL_ (some 69) rfl rfl Try.func35 (by kernel_rfl) rfl #[.slice A0 l0.length c0, .agg #[.int .i64 a1_0, .int .i64 a1_1, .int .i64 a1_2, .int .i64 a1_3, .int .i64 a1_4, .int .i64 a1_5]] rfl (by (try simp only [List.map_toArray, List.map_cons, List.map_nil]); first | done | rfl | (simp only [List.length_drop, List.length_take]; rfl)) ?_; (with_reducible refine (haulierref36_tails.calls k (fun k_ => ((P0_ k_ ∨ w.heap.size ≤ k_) ∧ k_ ≠ gb344)) _ _ l0 a1_0 a1_1 a1_2 a1_3 a1_4 a1_5 t361 t364 _ ?side1 A40.out).mono ?_); (case side1 => exact HO0.out); rintro e w43 ⟨v362, rfl, ho0, hb⟩; refine ⟨_, rfl, ?_⟩; have n0_ := Aside0.mk (Kd.V_elder' (by (with_reducible repeat (first | apply Kd.V_alloc | apply Kd.V_drewN | apply Kd.V_drew)); exact HO0.out) (Kd.N_base ho0) hb); have n1_ := Aside0.mk (Kd.N_lower (Kd.N_mono (ok' := fun k_ => (P0_ k_ ∨ w.heap.size ≤ k_) ∧ k_ ≠ gb344) ho0 (fun k_ hk_ => ⟨Or.elim hk_ (fun hs_ => hs_.1) (fun hn_ => (.inr (Nat.le_trans (below_size (by repeat (first | (with_reducible first | exact HB.out | apply below_alloc | apply pw_below_drewN | apply below_drew1 | refine below_set ?_ GE344.out) | exact HB.out))) hn_))), Or.elim hk_ (fun hs_ => hs_.2) (fun hn_ => (Kd.freshB (g := gb344) (o := .cells #[.int .i64 a1_0, .int .i64 a1_1, .int .i64 a1_2, .int .i64 a1_3, .int .i64 a1_4, .int .i64 a1_5] 24 (0, 0)) (by (with_reducible repeat (first | refine blk_drewN ?_ _ | refine blk_drew ?_ | refine blk_alloc ?_ _)); exact BK344.out) k_ hn_))⟩)) (below_size (by repeat (first | (with_reducible first | exact HB.out | apply below_alloc | apply pw_below_drewN | apply below_drew1 | refine below_set ?_ GE344.out) | exact HB.out)))); have n2_ := Aside0.mk (blk_below (g := gb344) (o := .cells #[.int .i64 a1_0, .int .i64 a1_1, .int .i64 a1_2, .int .i64 a1_3, .int .i64 a1_4, .int .i64 a1_5] 24 (0, 0)) (by (with_reducible repeat (first | refine blk_drewN ?_ _ | refine blk_drew ?_ | refine blk_alloc ?_ _)); exact BK344.out) hb); have n3_ := Aside0.mk (below_step (by repeat (first | (with_reducible first | exact HB.out | apply below_alloc | apply pw_below_drewN | apply below_drew1 | refine below_set ?_ GE344.out) | exact HB.out)) hb); clear HO0; clear BK344; clear HB; have HO0 := n0_; have HO363 := n1_; have BK344 := n2_; have HB := n3_; clear n0_ n1_ n2_ n3_; (try clear hb); (try clear hb2); (try clear hk); (try clear hi); (try clear ho0)))
   go_ret2
   exact ⟨_, by first | rfl | (simp [errW_none, errW_some] <;> rfl) | (simp [*, errW_none, errW_some] <;> rfl), by (with_reducible repeat (first | apply Kd.N_alloc | apply Kd.N_drewN | apply Kd.N_drew)); exact Kd.N_mono HO363.out (fun _ hk => hk.1), by repeat (first | (with_reducible first | exact HB.out | apply below_alloc | apply pw_below_drewN | apply below_drew1 | refine below_set ?_ GE344.out) | exact HB.out)⟩
  rw [if_neg c39] at H
  have c39b0 : (a1_0 == 4) = false := beq_eq_false_iff_ne.mpr c39
  have c39b1 : (a1_0 != 4) = true := bne_iff_ne.mpr c39
  by_cases c44 : a1_0 = 5
  rotate_left
  ·rw [if_neg c44] at H
   have c44b0 : (a1_0 == 5) = false := beq_eq_false_iff_ne.mpr c44
   have c44b1 : (a1_0 != 5) = true := bne_iff_ne.mpr c44
   simp only [Option.some.injEq, Prod.mk.injEq] at H
   obtain ⟨rfl, rfl⟩ := H
   exact no1_ (.inr (.inr (.inr (.inr (.inr (.inl ⟨c3b0, c6b0, c9b0, c12b0, c15b0, c15b1, c28b0, c28b1, c29b0, c29b1, c34b0, c34b1, c39b0, c39b1, c44b0, c44b1⟩))))))
  rw [if_pos c44] at H
  have c44b0 : (a1_0 == 5) = true := beq_iff_eq.mpr c44
  have c44b1 : (a1_0 != 5) = false := bne_eq_false_iff_eq.mpr c44
  clear c44
  replace H := Option.bind_eq_some_iff.mp H
  obtain ⟨⟨t365, t368⟩, A450, H⟩ := H
  replace H : (some (t365, t368)) = some (r1, r2) := H
  have A45 := Aside0.mk A450
  clear A450
  simp only [Option.some.injEq, Prod.mk.injEq] at H
  obtain ⟨rfl, rfl⟩ := H
  go_enter Try.func22, Try.ntmps22
  go_wp2_with (first | ((with_reducible refine gate_dst (N := 3) rfl ?_); (try (refine gate_guard (by rfl) ?_; dsimp only)); refine box_event ?hg (N := 3) ?hd (cs := #[.int .i64 a1_0, .int .i64 a1_1, .int .i64 a1_2, .int .i64 a1_3, .int .i64 a1_4, .int .i64 a1_5]) (t := 24) ?hr ?_; (case hd => rfl); (case hg => rfl); (case hr => first | (go_simp; done) | (go_simp; rfl)); intro gb344 hg w46 hbox hb; have n0_ := Aside0.mk (Kd.V_below (Kd.V_elderB (by (with_reducible repeat (first | apply Kd.V_alloc | apply Kd.V_drewN | apply Kd.V_drew)); exact HO0.out) gb344 (Nat.le_of_eq hg.symm)) hb); have n1_ := Aside0.mk (below_step (by repeat (first | (with_reducible first | exact HB.out | apply below_alloc | apply pw_below_drewN | apply below_drew1) | exact HB.out)) hb); have n2_ := Aside0.mk (hbox); have n3_ := Aside0.mk ((by rw [hg]; exact (below_size (by repeat (first | (with_reducible first | exact HB.out | apply below_alloc | apply pw_below_drewN | apply below_drew1) | exact HB.out))) : w.heap.size ≤ gb344)); have n4_ := Aside0.mk ((by rw [hg]; exact (below_size (by repeat (first | (with_reducible first | exact HB.out | apply below_alloc | apply pw_below_drewN | apply below_drew1) | exact HB.out))) : w.heap.size ≤ gb344)); clear HO0; clear HB; have HO0 := n0_; have HB := n1_; have BK344 := n2_; have GW344 := n3_; have GE344 := n4_; clear n0_ n1_ n2_ n3_ n4_; clear hb hbox hg; have hcz47_0 : w46.cell? ⟨gb344, 0, none⟩ = some (.int .i64 a1_0) := (blk_cell BK344.out 0).trans rfl; have hcz47_1 : w46.cell? ⟨gb344, 1, none⟩ = some (.int .i64 a1_1) := (blk_cell BK344.out 1).trans rfl; have hcz47_2 : w46.cell? ⟨gb344, 2, none⟩ = some (.int .i64 a1_2) := (blk_cell BK344.out 2).trans rfl; have hcz47_3 : w46.cell? ⟨gb344, 3, none⟩ = some (.int .i64 a1_3) := (blk_cell BK344.out 3).trans rfl; have hcz47_4 : w46.cell? ⟨gb344, 4, none⟩ = some (.int .i64 a1_4) := (blk_cell BK344.out 4).trans rfl; have hcz47_5 : w46.cell? ⟨gb344, 5, none⟩ = some (.int .i64 a1_5) := (blk_cell BK344.out 5).trans rfl; have hfz47_0 := blk_frozen BK344.out 0; have hfz47_1 := blk_frozen BK344.out 1; have hfz47_2 := blk_frozen BK344.out 2; have hfz47_3 := blk_frozen BK344.out 3; have hfz47_4 := blk_frozen BK344.out 4; have hfz47_5 := blk_frozen BK344.out 5) | ((with_reducible refine gate_callee (f := 36) rfl ?_); refine goesL_ (some 76) rfl rfl Try.func36 (by kernel_rfl) rfl #[.slice A0 l0.length c0, .agg #[.int .i64 a1_0, .int .i64 a1_1, .int .i64 a1_2, .int .i64 a1_3, .int .i64 a1_4, .int .i64 a1_5]] rfl (by (try simp only [List.map_toArray, List.map_cons, List.map_nil]); first | done | rfl | (simp only [List.length_drop, List.length_take]; rfl)) ?_; (with_reducible refine (haulierref36_turn.calls k (fun k_ => ((P0_ k_ ∨ w.heap.size ≤ k_) ∧ k_ ≠ gb344)) _ _ l0 a1_0 a1_1 a1_2 a1_3 a1_4 a1_5 t365 t368 _ ?side1 A45.out).mono ?_); (case side1 => exact HO0.out); rintro e w48 ⟨v366, rfl, ho0, hb⟩; refine ⟨_, rfl, ?_⟩; have n0_ := Aside0.mk (Kd.V_elder' (by (with_reducible repeat (first | apply Kd.V_alloc | apply Kd.V_drewN | apply Kd.V_drew)); exact HO0.out) (Kd.N_base ho0) hb); have n1_ := Aside0.mk (Kd.N_lower (Kd.N_mono (ok' := fun k_ => (P0_ k_ ∨ w.heap.size ≤ k_) ∧ k_ ≠ gb344) ho0 (fun k_ hk_ => ⟨Or.elim hk_ (fun hs_ => hs_.1) (fun hn_ => (.inr (Nat.le_trans (below_size (by repeat (first | (with_reducible first | exact HB.out | apply below_alloc | apply pw_below_drewN | apply below_drew1 | refine below_set ?_ GE344.out) | exact HB.out))) hn_))), Or.elim hk_ (fun hs_ => hs_.2) (fun hn_ => (Kd.freshB (g := gb344) (o := .cells #[.int .i64 a1_0, .int .i64 a1_1, .int .i64 a1_2, .int .i64 a1_3, .int .i64 a1_4, .int .i64 a1_5] 24 (0, 0)) (by (with_reducible repeat (first | refine blk_drewN ?_ _ | refine blk_drew ?_ | refine blk_alloc ?_ _)); exact BK344.out) k_ hn_))⟩)) (below_size (by repeat (first | (with_reducible first | exact HB.out | apply below_alloc | apply pw_below_drewN | apply below_drew1 | refine below_set ?_ GE344.out) | exact HB.out)))); have n2_ := Aside0.mk (blk_below (g := gb344) (o := .cells #[.int .i64 a1_0, .int .i64 a1_1, .int .i64 a1_2, .int .i64 a1_3, .int .i64 a1_4, .int .i64 a1_5] 24 (0, 0)) (by (with_reducible repeat (first | refine blk_drewN ?_ _ | refine blk_drew ?_ | refine blk_alloc ?_ _)); exact BK344.out) hb); have n3_ := Aside0.mk (below_step (by repeat (first | (with_reducible first | exact HB.out | apply below_alloc | apply pw_below_drewN | apply below_drew1 | refine below_set ?_ GE344.out) | exact HB.out)) hb); clear HO0; clear BK344; clear HB; have HO0 := n0_; have HO367 := n1_; have BK344 := n2_; have HB := n3_; clear n0_ n1_ n2_ n3_; (try clear hb); (try clear hb2); (try clear hk); (try clear hi); (try clear ho0)))
  go_ret2
  exact ⟨_, by first | rfl | (simp [errW_none, errW_some] <;> rfl) | (simp [*, errW_none, errW_some] <;> rfl), by (with_reducible repeat (first | apply Kd.N_alloc | apply Kd.N_drewN | apply Kd.N_drew)); exact Kd.N_mono HO367.out (fun _ hk => hk.1), by repeat (first | (with_reducible first | exact HB.out | apply below_alloc | apply pw_below_drewN | apply below_drew1 | refine below_set ?_ GE344.out) | exact HB.out)⟩
/-! ### haulierref36_Apply: function 11 -/
def haulierref36_Apply.f (k : Nat) (l0 : List (S35)) (a1_0 : Int) (a1_1 : Int) (a1_2 : Int) (a1_3 : Int) (a1_4 : Int) (a1_5 : Int) : Option ((List (S35)) × Bool) := (haulierref36_made.f k l0 a1_0 a1_1 a1_2 a1_3 a1_4 a1_5).bind fun bt370 => (if bt370.2 = true then ((haulierref35_Alike.f k l0 bt370.1).bind fun t374 => (if t374 = true then (some (([] : List (S35)), false)) else (some (bt370.1, true)))) else (some (([] : List (S35)), false)))
theorem haulierref36_Apply.mono : ∀ a0 a1 a2 a3 a4 a5 a6 k, LeO (haulierref36_Apply.f k a0 a1 a2 a3 a4 a5 a6) (haulierref36_Apply.f (k + 1) a0 a1 a2 a3 a4 a5 a6) := by
  intro a0 a1 a2 a3 a4 a5 a6 k
  unfold haulierref36_Apply.f
  repeat' first
   | (with_reducible exact haulierref35_Alike.mono _ _ _)
   | (with_reducible exact haulierref36_made.mono _ _ _ _ _ _ _ _)
   | (with_reducible exact LeO.refl _)
   | (with_reducible exact LeO.none _)
   | (with_reducible refine LeO.ite ?_ ?_)
   | (with_reducible refine LeO.bind ?_ (fun _ => ?_))
   | exact haulierref35_Alike.mono _ _ _
   | exact haulierref36_made.mono _ _ _ _ _ _ _ _
   | exact LeO.none _
   | refine LeO.ite ?_ ?_
   | refine LeO.bind ?_ (fun _ => ?_)
set_option maxHeartbeats 8000000 in
set_option maxRecDepth 100000 in
theorem haulierref36_Apply.calls (k : Nat) (P0_ : Nat → Prop) (A0 : Option Addr) (c0 : Nat) (l0 : List (S35)) (a1_0 : Int) (a1_1 : Int) (a1_2 : Int) (a1_3 : Int) (a1_4 : Int) (a1_5 : Int) (r1 : List (S35)) (r2 : Bool) (w : World) (hs0 : Kd.V k35 35 w w.heap.size (fun k_ => P0_ k_) (.slice A0 l0.length c0) l0) (h : haulierref36_Apply.f k l0 a1_0 a1_1 a1_2 a1_3 a1_4 a1_5 = some (r1, r2)) :
    Calls Try.prog 11 #[.slice A0 l0.length c0, .agg #[.int .i64 a1_0, .int .i64 a1_1, .int .i64 a1_2, .int .i64 a1_3, .int .i64 a1_4, .int .i64 a1_5]] w fun e w' => ∃ v0_ : Value, e = .returned (.tuple #[v0_, .bool r2]) ∧ Kd.N k35 35 w' w.heap.size (fun k_ => (P0_ k_ ∨ w.heap.size ≤ k_)) v0_ r1 ∧ Below w.heap.size w w' := by
  have hu24 := Try.underlying24
  have HO0 := Aside0.mk (show Kd.V k35 35 w w.heap.size (fun k_ => (P0_ k_ ∨ w.heap.size ≤ k_)) (.slice A0 l0.length c0) l0 from Kd.V_mono hs0 (fun k_ hk => .inl hk))
  have HB := Aside0.mk (Below.refl w.heap.size w)
  have H : ((haulierref36_made.f k l0 a1_0 a1_1 a1_2 a1_3 a1_4 a1_5).bind fun bt370 => (if bt370.2 = true then ((haulierref35_Alike.f k l0 bt370.1).bind fun t374 => (if t374 = true then (some (([] : List (S35)), false)) else (some (bt370.1, true)))) else (some (([] : List (S35)), false)))) = some (r1, r2) := h
  clear h
  replace H := Option.bind_eq_some_iff.mp H
  obtain ⟨⟨t370, t373⟩, A30, H⟩ := H
  replace H : (if t373 = true then ((haulierref35_Alike.f k l0 t370).bind fun t374 => (if t374 = true then (some (([] : List (S35)), false)) else (some (t370, true)))) else (some (([] : List (S35)), false))) = some (r1, r2) := H
  have A3 := Aside0.mk A30
  clear A30
  by_cases c4 : t373 = true
  rotate_left
  ·replace c4 := Bool.eq_false_iff.mpr c4
   subst c4
   have H1 : (some (([] : List (S35)), false)) = some (r1, r2) := by rw [if_neg (show ¬ (false = true) by decide)] at H; exact H
   clear H
   have H := H1
   clear H1
   simp only [Option.some.injEq, Prod.mk.injEq] at H
   obtain ⟨rfl, rfl⟩ := H
   go_enter Try.func11, Try.ntmps11
   go_wp2_with (first | ((with_reducible refine gate_dst (N := 3) rfl ?_); refine box_event ?hg (N := 3) ?hd (cs := #[.int .i64 a1_0, .int .i64 a1_1, .int .i64 a1_2, .int .i64 a1_3, .int .i64 a1_4, .int .i64 a1_5]) (t := 24) ?hr ?_; (case hd => rfl); (case hg => rfl); (case hr => first | (go_simp; done) | (go_simp; rfl)); intro gb369 hg w15 hbox hb; have n0_ := Aside0.mk (Kd.V_below (Kd.V_elderB (by (with_reducible repeat (first | apply Kd.V_alloc | apply Kd.V_drewN | apply Kd.V_drew)); exact HO0.out) gb369 (Nat.le_of_eq hg.symm)) hb); have n1_ := Aside0.mk (below_step (by repeat (first | (with_reducible first | exact HB.out | apply below_alloc | apply pw_below_drewN | apply below_drew1) | exact HB.out)) hb); have n2_ := Aside0.mk (hbox); have n3_ := Aside0.mk ((by rw [hg]; exact (below_size (by repeat (first | (with_reducible first | exact HB.out | apply below_alloc | apply pw_below_drewN | apply below_drew1) | exact HB.out))) : w.heap.size ≤ gb369)); have n4_ := Aside0.mk ((by rw [hg]; exact (below_size (by repeat (first | (with_reducible first | exact HB.out | apply below_alloc | apply pw_below_drewN | apply below_drew1) | exact HB.out))) : w.heap.size ≤ gb369)); clear HO0; clear HB; have HO0 := n0_; have HB := n1_; have BK369 := n2_; have GW369 := n3_; have GE369 := n4_; clear n0_ n1_ n2_ n3_ n4_; clear hb hbox hg; have hcz16_0 : w15.cell? ⟨gb369, 0, none⟩ = some (.int .i64 a1_0) := (blk_cell BK369.out 0).trans rfl; have hcz16_1 : w15.cell? ⟨gb369, 1, none⟩ = some (.int .i64 a1_1) := (blk_cell BK369.out 1).trans rfl; have hcz16_2 : w15.cell? ⟨gb369, 2, none⟩ = some (.int .i64 a1_2) := (blk_cell BK369.out 2).trans rfl; have hcz16_3 : w15.cell? ⟨gb369, 3, none⟩ = some (.int .i64 a1_3) := (blk_cell BK369.out 3).trans rfl; have hcz16_4 : w15.cell? ⟨gb369, 4, none⟩ = some (.int .i64 a1_4) := (blk_cell BK369.out 4).trans rfl; have hcz16_5 : w15.cell? ⟨gb369, 5, none⟩ = some (.int .i64 a1_5) := (blk_cell BK369.out 5).trans rfl; have hfz16_0 := blk_frozen BK369.out 0; have hfz16_1 := blk_frozen BK369.out 1; have hfz16_2 := blk_frozen BK369.out 2; have hfz16_3 := blk_frozen BK369.out 3; have hfz16_4 := blk_frozen BK369.out 4; have hfz16_5 := blk_frozen BK369.out 5) | ((with_reducible refine gate_callee (f := 22) rfl ?_); refine goesL_ (some 11) rfl rfl Try.func22 (by kernel_rfl) rfl #[.slice A0 l0.length c0, .agg #[.int .i64 a1_0, .int .i64 a1_1, .int .i64 a1_2, .int .i64 a1_3, .int .i64 a1_4, .int .i64 a1_5]] rfl (by (try simp only [List.map_toArray, List.map_cons, List.map_nil]); first | done | rfl | (simp only [List.length_drop, List.length_take]; rfl)) ?_; (with_reducible refine (haulierref36_made.calls k (fun k_ => ((P0_ k_ ∨ w.heap.size ≤ k_) ∧ k_ ≠ gb369)) _ _ l0 a1_0 a1_1 a1_2 a1_3 a1_4 a1_5 t370 false _ ?side1 A3.out).mono ?_); (case side1 => exact HO0.out); rintro e w17 ⟨v371, rfl, ho0, hb⟩; refine ⟨_, rfl, ?_⟩; have n0_ := Aside0.mk (Kd.V_elder' (by (with_reducible repeat (first | apply Kd.V_alloc | apply Kd.V_drewN | apply Kd.V_drew)); exact HO0.out) (Kd.N_base ho0) hb); have n1_ := Aside0.mk (Kd.N_lower (Kd.N_mono (ok' := fun k_ => (P0_ k_ ∨ w.heap.size ≤ k_) ∧ k_ ≠ gb369) ho0 (fun k_ hk_ => ⟨Or.elim hk_ (fun hs_ => hs_.1) (fun hn_ => (.inr (Nat.le_trans (below_size (by repeat (first | (with_reducible first | exact HB.out | apply below_alloc | apply pw_below_drewN | apply below_drew1 | refine below_set ?_ GE369.out) | exact HB.out))) hn_))), Or.elim hk_ (fun hs_ => hs_.2) (fun hn_ => (Kd.freshB (g := gb369) (o := .cells #[.int .i64 a1_0, .int .i64 a1_1, .int .i64 a1_2, .int .i64 a1_3, .int .i64 a1_4, .int .i64 a1_5] 24 (0, 0)) (by (with_reducible repeat (first | refine blk_drewN ?_ _ | refine blk_drew ?_ | refine blk_alloc ?_ _)); exact BK369.out) k_ hn_))⟩)) (below_size (by repeat (first | (with_reducible first | exact HB.out | apply below_alloc | apply pw_below_drewN | apply below_drew1 | refine below_set ?_ GE369.out) | exact HB.out)))); have n2_ := Aside0.mk (blk_below (g := gb369) (o := .cells #[.int .i64 a1_0, .int .i64 a1_1, .int .i64 a1_2, .int .i64 a1_3, .int .i64 a1_4, .int .i64 a1_5] 24 (0, 0)) (by (with_reducible repeat (first | refine blk_drewN ?_ _ | refine blk_drew ?_ | refine blk_alloc ?_ _)); exact BK369.out) hb); have n3_ := Aside0.mk (below_step (by repeat (first | (with_reducible first | exact HB.out | apply below_alloc | apply pw_below_drewN | apply below_drew1 | refine below_set ?_ GE369.out) | exact HB.out)) hb); clear HO0; clear BK369; clear HB; have HO0 := n0_; have HO372 := n1_; have BK369 := n2_; have HB := n3_; clear n0_ n1_ n2_ n3_; (try clear hb); (try clear hb2); (try clear hk); (try clear hi); (try clear ho0)))
   go_ret2
   exact ⟨_, by first | rfl | (simp [errW_none, errW_some] <;> rfl) | (simp [*, errW_none, errW_some] <;> rfl), by first | exact Kd.S_nil _ _ _ _ _ | exact Kd.N_nil _ _ _ _ _ | exact Kd.V_nil _ _ _ _ _ | exact Kd.Q_nil _ _ _ _ _ | exact Kd.R_nil _ _ _ _ _, by repeat (first | (with_reducible first | exact HB.out | apply below_alloc | apply pw_below_drewN | apply below_drew1 | refine below_set ?_ GE369.out) | exact HB.out)⟩
  subst c4
  have H1 : ((haulierref35_Alike.f k l0 t370).bind fun t374 => (if t374 = true then (some (([] : List (S35)), false)) else (some (t370, true)))) = some (r1, r2) := by rw [if_pos rfl] at H; exact H
  clear H
  have H := H1
  clear H1
  replace H := Option.bind_eq_some_iff.mp H
  obtain ⟨t374, A50, H⟩ := H
  replace H : (if t374 = true then (some (([] : List (S35)), false)) else (some (t370, true))) = some (r1, r2) := H
  have A5 := Aside0.mk A50
  clear A50
  by_cases c6 : t374 = true
  ·subst c6
   have H1 : (some (([] : List (S35)), false)) = some (r1, r2) := by rw [if_pos rfl] at H; exact H
   clear H
   have H := H1
   clear H1
   simp only [Option.some.injEq, Prod.mk.injEq] at H
   obtain ⟨rfl, rfl⟩ := H
   go_enter Try.func11, Try.ntmps11
   go_wp2_with (first | ((with_reducible refine gate_dst (N := 3) rfl ?_); refine box_event ?hg (N := 3) ?hd (cs := #[.int .i64 a1_0, .int .i64 a1_1, .int .i64 a1_2, .int .i64 a1_3, .int .i64 a1_4, .int .i64 a1_5]) (t := 24) ?hr ?_; (case hd => rfl); (case hg => rfl); (case hr => first | (go_simp; done) | (go_simp; rfl)); intro gb369 hg w7 hbox hb; have n0_ := Aside0.mk (Kd.V_below (Kd.V_elderB (by (with_reducible repeat (first | apply Kd.V_alloc | apply Kd.V_drewN | apply Kd.V_drew)); exact HO0.out) gb369 (Nat.le_of_eq hg.symm)) hb); have n1_ := Aside0.mk (below_step (by repeat (first | (with_reducible first | exact HB.out | apply below_alloc | apply pw_below_drewN | apply below_drew1) | exact HB.out)) hb); have n2_ := Aside0.mk (hbox); have n3_ := Aside0.mk ((by rw [hg]; exact (below_size (by repeat (first | (with_reducible first | exact HB.out | apply below_alloc | apply pw_below_drewN | apply below_drew1) | exact HB.out))) : w.heap.size ≤ gb369)); have n4_ := Aside0.mk ((by rw [hg]; exact (below_size (by repeat (first | (with_reducible first | exact HB.out | apply below_alloc | apply pw_below_drewN | apply below_drew1) | exact HB.out))) : w.heap.size ≤ gb369)); clear HO0; clear HB; have HO0 := n0_; have HB := n1_; have BK369 := n2_; have GW369 := n3_; have GE369 := n4_; clear n0_ n1_ n2_ n3_ n4_; clear hb hbox hg; have hcz8_0 : w7.cell? ⟨gb369, 0, none⟩ = some (.int .i64 a1_0) := (blk_cell BK369.out 0).trans rfl; have hcz8_1 : w7.cell? ⟨gb369, 1, none⟩ = some (.int .i64 a1_1) := (blk_cell BK369.out 1).trans rfl; have hcz8_2 : w7.cell? ⟨gb369, 2, none⟩ = some (.int .i64 a1_2) := (blk_cell BK369.out 2).trans rfl; have hcz8_3 : w7.cell? ⟨gb369, 3, none⟩ = some (.int .i64 a1_3) := (blk_cell BK369.out 3).trans rfl; have hcz8_4 : w7.cell? ⟨gb369, 4, none⟩ = some (.int .i64 a1_4) := (blk_cell BK369.out 4).trans rfl; have hcz8_5 : w7.cell? ⟨gb369, 5, none⟩ = some (.int .i64 a1_5) := (blk_cell BK369.out 5).trans rfl; have hfz8_0 := blk_frozen BK369.out 0; have hfz8_1 := blk_frozen BK369.out 1; have hfz8_2 := blk_frozen BK369.out 2; have hfz8_3 := blk_frozen BK369.out 3; have hfz8_4 := blk_frozen BK369.out 4; have hfz8_5 := blk_frozen BK369.out 5) | ((with_reducible refine gate_callee (f := 22) rfl ?_); refine goesL_ (some 11) rfl rfl Try.func22 (by kernel_rfl) rfl #[.slice A0 l0.length c0, .agg #[.int .i64 a1_0, .int .i64 a1_1, .int .i64 a1_2, .int .i64 a1_3, .int .i64 a1_4, .int .i64 a1_5]] rfl (by (try simp only [List.map_toArray, List.map_cons, List.map_nil]); first | done | rfl | (simp only [List.length_drop, List.length_take]; rfl)) ?_; (with_reducible refine (haulierref36_made.calls k (fun k_ => ((P0_ k_ ∨ w.heap.size ≤ k_) ∧ k_ ≠ gb369)) _ _ l0 a1_0 a1_1 a1_2 a1_3 a1_4 a1_5 t370 true _ ?side1 A3.out).mono ?_); (case side1 => exact HO0.out); rintro e w9 ⟨v371, rfl, ho0, hb⟩; refine ⟨_, rfl, ?_⟩; have n0_ := Aside0.mk (Kd.V_elder' (by (with_reducible repeat (first | apply Kd.V_alloc | apply Kd.V_drewN | apply Kd.V_drew)); exact HO0.out) (Kd.N_base ho0) hb); have n1_ := Aside0.mk (Kd.N_lower (Kd.N_mono (ok' := fun k_ => (P0_ k_ ∨ w.heap.size ≤ k_) ∧ k_ ≠ gb369) ho0 (fun k_ hk_ => ⟨Or.elim hk_ (fun hs_ => hs_.1) (fun hn_ => (.inr (Nat.le_trans (below_size (by repeat (first | (with_reducible first | exact HB.out | apply below_alloc | apply pw_below_drewN | apply below_drew1 | refine below_set ?_ GE369.out) | exact HB.out))) hn_))), Or.elim hk_ (fun hs_ => hs_.2) (fun hn_ => (Kd.freshB (g := gb369) (o := .cells #[.int .i64 a1_0, .int .i64 a1_1, .int .i64 a1_2, .int .i64 a1_3, .int .i64 a1_4, .int .i64 a1_5] 24 (0, 0)) (by (with_reducible repeat (first | refine blk_drewN ?_ _ | refine blk_drew ?_ | refine blk_alloc ?_ _)); exact BK369.out) k_ hn_))⟩)) (below_size (by repeat (first | (with_reducible first | exact HB.out | apply below_alloc | apply pw_below_drewN | apply below_drew1 | refine below_set ?_ GE369.out) | exact HB.out)))); have n2_ := Aside0.mk (blk_below (g := gb369) (o := .cells #[.int .i64 a1_0, .int .i64 a1_1, .int .i64 a1_2, .int .i64 a1_3, .int .i64 a1_4, .int .i64 a1_5] 24 (0, 0)) (by (with_reducible repeat (first | refine blk_drewN ?_ _ | refine blk_drew ?_ | refine blk_alloc ?_ _)); exact BK369.out) hb); have n3_ := Aside0.mk (below_step (by repeat (first | (with_reducible first | exact HB.out | apply below_alloc | apply pw_below_drewN | apply below_drew1 | refine below_set ?_ GE369.out) | exact HB.out)) hb); clear HO0; clear BK369; clear HB; have HO0 := n0_; have HO372 := n1_; have BK369 := n2_; have HB := n3_; clear n0_ n1_ n2_ n3_; (try clear hb); (try clear hb2); (try clear hk); (try clear hi); (try clear ho0); obtain ⟨Ao10, co10, eo10⟩ := Kd.N_slice HO372.out; subst eo10) | (go_at_call 12; (with_reducible refine (haulierref35_Alike.calls k _ _ l0 _ _ t370 true _ ?side1 ?side2 ?side3 ?side4 A5.out).mono ?_); (case side1 => repeat (first | exact (Kd.V_reads' HO0.out).2.2 | (with_reducible refine Kd.C_alloc ?_ _) | (with_reducible refine Kd.C_drewN ?_ _) | (with_reducible refine Kd.C_drew ?_))); (case side2 => exact (Kd.V_reads' HO0.out).2.1); (case side3 => repeat (first | exact (Kd.N_reads' HO372.out).2.2 | (with_reducible refine Kd.C_alloc ?_ _) | (with_reducible refine Kd.C_drewN ?_ _) | (with_reducible refine Kd.C_drew ?_))); (case side4 => exact (Kd.N_reads' HO372.out).2.1); rintro e w' ⟨rfl, ⟨nd, rfl⟩⟩))
   go_ret2
   exact ⟨_, by first | rfl | (simp [errW_none, errW_some] <;> rfl) | (simp [*, errW_none, errW_some] <;> rfl), by first | exact Kd.S_nil _ _ _ _ _ | exact Kd.N_nil _ _ _ _ _ | exact Kd.V_nil _ _ _ _ _ | exact Kd.Q_nil _ _ _ _ _ | exact Kd.R_nil _ _ _ _ _, by repeat (first | (with_reducible first | exact HB.out | apply below_alloc | apply pw_below_drewN | apply below_drew1 | refine below_set ?_ GE369.out) | exact HB.out)⟩
  replace c6 := Bool.eq_false_iff.mpr c6
  subst c6
  have H1 : (some (t370, true)) = some (r1, r2) := by rw [if_neg (show ¬ (false = true) by decide)] at H; exact H
  clear H
  have H := H1
  clear H1
  simp only [Option.some.injEq, Prod.mk.injEq] at H
  obtain ⟨rfl, rfl⟩ := H
  go_enter Try.func11, Try.ntmps11
  go_wp2_with (first | ((with_reducible refine gate_dst (N := 3) rfl ?_); refine box_event ?hg (N := 3) ?hd (cs := #[.int .i64 a1_0, .int .i64 a1_1, .int .i64 a1_2, .int .i64 a1_3, .int .i64 a1_4, .int .i64 a1_5]) (t := 24) ?hr ?_; (case hd => rfl); (case hg => rfl); (case hr => first | (go_simp; done) | (go_simp; rfl)); intro gb369 hg w11 hbox hb; have n0_ := Aside0.mk (Kd.V_below (Kd.V_elderB (by (with_reducible repeat (first | apply Kd.V_alloc | apply Kd.V_drewN | apply Kd.V_drew)); exact HO0.out) gb369 (Nat.le_of_eq hg.symm)) hb); have n1_ := Aside0.mk (below_step (by repeat (first | (with_reducible first | exact HB.out | apply below_alloc | apply pw_below_drewN | apply below_drew1) | exact HB.out)) hb); have n2_ := Aside0.mk (hbox); have n3_ := Aside0.mk ((by rw [hg]; exact (below_size (by repeat (first | (with_reducible first | exact HB.out | apply below_alloc | apply pw_below_drewN | apply below_drew1) | exact HB.out))) : w.heap.size ≤ gb369)); have n4_ := Aside0.mk ((by rw [hg]; exact (below_size (by repeat (first | (with_reducible first | exact HB.out | apply below_alloc | apply pw_below_drewN | apply below_drew1) | exact HB.out))) : w.heap.size ≤ gb369)); clear HO0; clear HB; have HO0 := n0_; have HB := n1_; have BK369 := n2_; have GW369 := n3_; have GE369 := n4_; clear n0_ n1_ n2_ n3_ n4_; clear hb hbox hg; have hcz12_0 : w11.cell? ⟨gb369, 0, none⟩ = some (.int .i64 a1_0) := (blk_cell BK369.out 0).trans rfl; have hcz12_1 : w11.cell? ⟨gb369, 1, none⟩ = some (.int .i64 a1_1) := (blk_cell BK369.out 1).trans rfl; have hcz12_2 : w11.cell? ⟨gb369, 2, none⟩ = some (.int .i64 a1_2) := (blk_cell BK369.out 2).trans rfl; have hcz12_3 : w11.cell? ⟨gb369, 3, none⟩ = some (.int .i64 a1_3) := (blk_cell BK369.out 3).trans rfl; have hcz12_4 : w11.cell? ⟨gb369, 4, none⟩ = some (.int .i64 a1_4) := (blk_cell BK369.out 4).trans rfl; have hcz12_5 : w11.cell? ⟨gb369, 5, none⟩ = some (.int .i64 a1_5) := (blk_cell BK369.out 5).trans rfl; have hfz12_0 := blk_frozen BK369.out 0; have hfz12_1 := blk_frozen BK369.out 1; have hfz12_2 := blk_frozen BK369.out 2; have hfz12_3 := blk_frozen BK369.out 3; have hfz12_4 := blk_frozen BK369.out 4; have hfz12_5 := blk_frozen BK369.out 5) | ((with_reducible refine gate_callee (f := 22) rfl ?_); refine goesL_ (some 11) rfl rfl Try.func22 (by kernel_rfl) rfl #[.slice A0 l0.length c0, .agg #[.int .i64 a1_0, .int .i64 a1_1, .int .i64 a1_2, .int .i64 a1_3, .int .i64 a1_4, .int .i64 a1_5]] rfl (by (try simp only [List.map_toArray, List.map_cons, List.map_nil]); first | done | rfl | (simp only [List.length_drop, List.length_take]; rfl)) ?_; (with_reducible refine (haulierref36_made.calls k (fun k_ => ((P0_ k_ ∨ w.heap.size ≤ k_) ∧ k_ ≠ gb369)) _ _ l0 a1_0 a1_1 a1_2 a1_3 a1_4 a1_5 t370 true _ ?side1 A3.out).mono ?_); (case side1 => exact HO0.out); rintro e w13 ⟨v371, rfl, ho0, hb⟩; refine ⟨_, rfl, ?_⟩; have n0_ := Aside0.mk (Kd.V_elder' (by (with_reducible repeat (first | apply Kd.V_alloc | apply Kd.V_drewN | apply Kd.V_drew)); exact HO0.out) (Kd.N_base ho0) hb); have n1_ := Aside0.mk (Kd.N_lower (Kd.N_mono (ok' := fun k_ => (P0_ k_ ∨ w.heap.size ≤ k_) ∧ k_ ≠ gb369) ho0 (fun k_ hk_ => ⟨Or.elim hk_ (fun hs_ => hs_.1) (fun hn_ => (.inr (Nat.le_trans (below_size (by repeat (first | (with_reducible first | exact HB.out | apply below_alloc | apply pw_below_drewN | apply below_drew1 | refine below_set ?_ GE369.out) | exact HB.out))) hn_))), Or.elim hk_ (fun hs_ => hs_.2) (fun hn_ => (Kd.freshB (g := gb369) (o := .cells #[.int .i64 a1_0, .int .i64 a1_1, .int .i64 a1_2, .int .i64 a1_3, .int .i64 a1_4, .int .i64 a1_5] 24 (0, 0)) (by (with_reducible repeat (first | refine blk_drewN ?_ _ | refine blk_drew ?_ | refine blk_alloc ?_ _)); exact BK369.out) k_ hn_))⟩)) (below_size (by repeat (first | (with_reducible first | exact HB.out | apply below_alloc | apply pw_below_drewN | apply below_drew1 | refine below_set ?_ GE369.out) | exact HB.out)))); have n2_ := Aside0.mk (blk_below (g := gb369) (o := .cells #[.int .i64 a1_0, .int .i64 a1_1, .int .i64 a1_2, .int .i64 a1_3, .int .i64 a1_4, .int .i64 a1_5] 24 (0, 0)) (by (with_reducible repeat (first | refine blk_drewN ?_ _ | refine blk_drew ?_ | refine blk_alloc ?_ _)); exact BK369.out) hb); have n3_ := Aside0.mk (below_step (by repeat (first | (with_reducible first | exact HB.out | apply below_alloc | apply pw_below_drewN | apply below_drew1 | refine below_set ?_ GE369.out) | exact HB.out)) hb); clear HO0; clear BK369; clear HB; have HO0 := n0_; have HO372 := n1_; have BK369 := n2_; have HB := n3_; clear n0_ n1_ n2_ n3_; (try clear hb); (try clear hb2); (try clear hk); (try clear hi); (try clear ho0); obtain ⟨Ao14, co14, eo14⟩ := Kd.N_slice HO372.out; subst eo14) | (go_at_call 12; (with_reducible refine (haulierref35_Alike.calls k _ _ l0 _ _ t370 false _ ?side1 ?side2 ?side3 ?side4 A5.out).mono ?_); (case side1 => repeat (first | exact (Kd.V_reads' HO0.out).2.2 | (with_reducible refine Kd.C_alloc ?_ _) | (with_reducible refine Kd.C_drewN ?_ _) | (with_reducible refine Kd.C_drew ?_))); (case side2 => exact (Kd.V_reads' HO0.out).2.1); (case side3 => repeat (first | exact (Kd.N_reads' HO372.out).2.2 | (with_reducible refine Kd.C_alloc ?_ _) | (with_reducible refine Kd.C_drewN ?_ _) | (with_reducible refine Kd.C_drew ?_))); (case side4 => exact (Kd.N_reads' HO372.out).2.1); rintro e w' ⟨rfl, ⟨nd, rfl⟩⟩))
  go_ret2
  exact ⟨_, by first | rfl | (simp [errW_none, errW_some] <;> rfl) | (simp [*, errW_none, errW_some] <;> rfl), by (with_reducible repeat (first | apply Kd.N_alloc | apply Kd.N_drewN | apply Kd.N_drew)); exact Kd.N_mono HO372.out (fun _ hk => hk.1), by repeat (first | (with_reducible first | exact HB.out | apply below_alloc | apply pw_below_drewN | apply below_drew1 | refine below_set ?_ GE369.out) | exact HB.out)⟩
end Go.Proofs.Ytcofibbgdnbejaa.MMoveAll
