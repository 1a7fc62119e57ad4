/- Written by a program of this session: Go functions that the law MoveAll reaches, as Lean functions, each with a proof that the Go code comes to just what it says; every input of the kinds that a contract names. -/
import Derived.Test.YtcofibbgdnbejaaMMoveAllx0
import Derived.Test.YtcofibbgdnbejaaMMoveAllx3
import Derived.Test.YtcofibbgdnbejaaMMoveAllx4
namespace Go.Proofs.Ytcofibbgdnbejaa.MMoveAll
open Go.RowKit Go.Proofs.YtcofibbgdnbejaaW.PrintWords Go.Proofs.YtcofibbgdnbejaaW.PrintLast Go.Proofs.YtcofibbgdnbejaaW.PrintMore
attribute [local go_sem] max2_int min2_int max_two min_two max_three min_three max_four min_four
set_option linter.unusedVariables false
set_option linter.unusedSimpArgs false
set_option linter.unnecessarySimpa false
/-! ### haulierref36_exchange: function 34 -/
def haulierref36_exchange.f (k : Nat) (l0 : List (S35)) (a1_0 : Int) (a1_1 : Int) (a1_2 : Int) (a1_3 : Int) (a1_4 : Int) (a1_5 : Int) : Option ((List (S35)) × Bool) := if 0 ≤ a1_1 then (if a1_1 < (l0.length : Int) then (if 0 ≤ a1_3 then (if a1_3 < (l0.length : Int) then (if a1_1 > a1_3 then (some (([] : List (S35)), false)) else (if a1_1 = a1_3 then (if a1_2 ≥ a1_4 then (some (([] : List (S35)), false)) else (if a1_2 < 0 then (some (([] : List (S35)), false)) else (if a1_2 ≥ (((rd_T35 l0 a1_1).f1).length : Int) then (some (([] : List (S35)), false)) else (if a1_4 < 0 then (some (([] : List (S35)), false)) else (if a1_4 ≥ (((rd_T35 l0 a1_3).f1).length : Int) then (some (([] : List (S35)), false)) else (if 0 ≤ a1_2 then (if a1_2 < (((rd_T35 l0 a1_1).f1).length : Int) then (if 0 ≤ a1_4 then (if a1_4 < (((rd_T35 l0 a1_3).f1).length : Int) then ((haulierref36_cut.f k ((rd_T35 l0 a1_1).f1) a1_2 1).bind fun t240 => ((haulierref36_put.f t240 a1_2 (([rd ((rd_T35 l0 a1_3).f1) a1_4] : List Int))).bind fun t246 => ((haulierref36_with.f k l0 a1_1 t246).bind fun t249 => (if a1_3 < (t249.length : Int) then ((haulierref36_cut.f k ((rd_T35 t249 a1_3).f1) a1_4 1).bind fun t253 => ((haulierref36_put.f t253 a1_4 (([rd ((rd_T35 l0 a1_1).f1) a1_2] : List Int))).bind fun t259 => ((haulierref36_with.f k t249 a1_3 t259).bind fun t262 => (some (t262, true))))) else (none))))) else (none)) else (none)) else (none)) else (none))))))) else (if a1_2 < 0 then (some (([] : List (S35)), false)) else (if a1_2 ≥ (((rd_T35 l0 a1_1).f1).length : Int) then (some (([] : List (S35)), false)) else (if a1_4 < 0 then (some (([] : List (S35)), false)) else (if a1_4 ≥ (((rd_T35 l0 a1_3).f1).length : Int) then (some (([] : List (S35)), false)) else (if 0 ≤ a1_2 then (if a1_2 < (((rd_T35 l0 a1_1).f1).length : Int) then (if 0 ≤ a1_4 then (if a1_4 < (((rd_T35 l0 a1_3).f1).length : Int) then ((haulierref36_cut.f k ((rd_T35 l0 a1_1).f1) a1_2 1).bind fun t267 => ((haulierref36_put.f t267 a1_2 (([rd ((rd_T35 l0 a1_3).f1) a1_4] : List Int))).bind fun t273 => ((haulierref36_with.f k l0 a1_1 t273).bind fun t276 => (if a1_3 < (t276.length : Int) then ((haulierref36_cut.f k ((rd_T35 t276 a1_3).f1) a1_4 1).bind fun t280 => ((haulierref36_put.f t280 a1_4 (([rd ((rd_T35 l0 a1_1).f1) a1_2] : List Int))).bind fun t286 => ((haulierref36_with.f k t276 a1_3 t286).bind fun t289 => (some (t289, true))))) else (none))))) else (none)) else (none)) else (none)) else (none)))))))) else (none)) else (none)) else (none)) else (none)
theorem haulierref36_exchange.mono : ∀ a0 a1 a2 a3 a4 a5 a6 k, LeO (haulierref36_exchange.f k a0 a1 a2 a3 a4 a5 a6) (haulierref36_exchange.f (k + 1) a0 a1 a2 a3 a4 a5 a6) := by
  intro a0 a1 a2 a3 a4 a5 a6 k
  unfold haulierref36_exchange.f
  repeat' first
   | (with_reducible exact haulierref36_cut.mono _ _ _ _)
   | (with_reducible exact haulierref36_with.mono _ _ _ _)
   | (with_reducible exact LeO.refl _)
   | (with_reducible exact LeO.none _)
   | (with_reducible refine LeO.ite ?_ ?_)
   | (with_reducible refine LeO.bind ?_ (fun _ => ?_))
   | exact haulierref36_cut.mono _ _ _ _
   | exact haulierref36_with.mono _ _ _ _
   | exact LeO.none _
   | refine LeO.ite ?_ ?_
   | refine LeO.bind ?_ (fun _ => ?_)
def haulierref36_exchange.T1 : Bool × List (List Nat × List Nat) := (true, [([], []), ([], []), ([1], [1]), ([0, 2], [0, 2]), ([3], [3]), ([4], [4]), ([], []), ([], []), ([7], [7]), ([6, 8], [6, 8]), ([9], [9]), ([10], [10]), ([5, 0, 1, 2, 3, 4, 5], [5]), ([11, 12, 0, 1, 2, 3, 4, 5, 6, 7, 8, 9, 10, 11, 12], [11])])
def haulierref36_exchange.B1 : List Nat := [0, 0, 2, 7, 15, 31, 0, 0, 128, 448, 960, 1984, 63, 8191]
theorem haulierref36_exchange.tab1 : rtab .any (opsOf Try.f34 1) = haulierref36_exchange.T1 := by kernel_rfl
theorem haulierref36_exchange.bits1 : waitsOk haulierref36_exchange.T1.2 haulierref36_exchange.B1 = true := by kernel_rfl
def haulierref36_exchange.T4 : Bool × List (List Nat × List Nat) := (true, [([], []), ([], []), ([1], [1]), ([0, 2], [0, 2]), ([3], [3]), ([], []), ([], []), ([6], [6]), ([5, 7], [5, 7]), ([8], [8]), ([4, 0, 1, 2, 3, 4], [4]), ([9, 10, 0, 1, 2, 3, 4, 5, 6, 7, 8, 9, 10], [9])])
def haulierref36_exchange.B4 : List Nat := [0, 0, 2, 7, 15, 0, 0, 64, 224, 480, 31, 2047]
theorem haulierref36_exchange.tab4 : rtab .any (opsOf Try.f34 4) = haulierref36_exchange.T4 := by kernel_rfl
theorem haulierref36_exchange.bits4 : waitsOk haulierref36_exchange.T4.2 haulierref36_exchange.B4 = true := by kernel_rfl
def haulierref36_exchange.T5 : Bool × List (List Nat × List Nat) := (true, [([], []), ([], []), ([1], [1]), ([], []), ([], []), ([4], [4]), ([3, 5], [3, 5]), ([], []), ([7], [7]), ([], []), ([9], [9]), ([6, 8, 10, 6], [6, 8, 10]), ([0, 2, 11, 11], [0, 2, 11]), ([12, 12, 0, 1, 2, 3, 4, 5, 6, 7, 8, 9, 10, 11, 12], [12])])
def haulierref36_exchange.B5 : List Nat := [0, 0, 2, 0, 0, 16, 56, 0, 128, 0, 512, 2040, 4095, 8191]
theorem haulierref36_exchange.tab5 : rtab .any (opsOf Try.f34 5) = haulierref36_exchange.T5 := by kernel_rfl
theorem haulierref36_exchange.bits5 : waitsOk haulierref36_exchange.T5.2 haulierref36_exchange.B5 = true := by kernel_rfl
def haulierref36_exchange.T6 : Bool × List (List Nat × List Nat) := (true, [([], []), ([], []), ([1], [1]), ([], []), ([], []), ([4], [4]), ([3, 5], [3, 5]), ([6], [6]), ([7], [7]), ([], []), ([9], [9]), ([8, 10], [8, 10]), ([], []), ([12], [12]), ([], []), ([14], [14]), ([11, 13, 15, 11], [11, 13, 15]), ([0, 2, 16, 16], [0, 2, 16]), ([17, 17, 0, 1, 2, 3, 4, 5, 6, 7, 8, 9, 10, 11, 12, 13, 14, 15, 16, 17], [17]), ([18, 0, 1, 2, 3, 4, 5, 6, 7, 8, 9, 10, 11, 12, 13, 14, 15, 16, 17, 18], [])])
def haulierref36_exchange.B6 : List Nat := [0, 0, 2, 0, 0, 16, 56, 120, 248, 0, 512, 2040, 0, 4096, 0, 16384, 65528, 131071, 262143, 524287]
theorem haulierref36_exchange.tab6 : rtab .any (opsOf Try.f34 6) = haulierref36_exchange.T6 := by kernel_rfl
theorem haulierref36_exchange.bits6 : waitsOk haulierref36_exchange.T6.2 haulierref36_exchange.B6 = true := by kernel_rfl
set_option maxHeartbeats 8000000 in
set_option maxRecDepth 100000 in
theorem haulierref36_exchange.no1 (k : Nat) (P0_ : Nat → Prop) (A0 : Option Addr) (c0 : Nat) (l0 : List (S35)) (a1_0 : Int) (a1_1 : Int) (a1_2 : Int) (a1_3 : Int) (a1_4 : Int) (a1_5 : Int) (w : World) (hs0 : Kd.V k35 35 w w.heap.size (fun k_ => P0_ k_) (.slice A0 l0.length c0) l0) (key : ((decide (0 ≤ a1_1) = true) ∧ (decide (a1_1 < (l0.length : Int)) = true) ∧ (decide (0 ≤ a1_3) = true) ∧ (decide (a1_3 < (l0.length : Int)) = true) ∧ (decide (a1_3 < a1_1) = true)) ∨ ((decide (0 ≤ a1_1) = true) ∧ (decide (a1_1 < (l0.length : Int)) = true) ∧ (decide (0 ≤ a1_3) = true) ∧ (decide (a1_3 < (l0.length : Int)) = true) ∧ (decide (a1_3 < a1_1) = false) ∧ ((a1_1 == a1_3) = true) ∧ ((a1_1 != a1_3) = false) ∧ (decide (a1_4 ≤ a1_2) = true)) ∨ ((decide (0 ≤ a1_1) = true) ∧ (decide (a1_1 < (l0.length : Int)) = true) ∧ (decide (0 ≤ a1_3) = true) ∧ (decide (a1_3 < (l0.length : Int)) = true) ∧ (decide (a1_3 < a1_1) = false) ∧ ((a1_1 == a1_3) = true) ∧ ((a1_1 != a1_3) = false) ∧ (decide (a1_4 ≤ a1_2) = false) ∧ (decide (a1_2 < 0) = true)) ∨ ((decide (0 ≤ a1_1) = true) ∧ (decide (a1_1 < (l0.length : Int)) = true) ∧ (decide (0 ≤ a1_3) = true) ∧ (decide (a1_3 < (l0.length : Int)) = true) ∧ (decide (a1_3 < a1_1) = false) ∧ ((a1_1 == a1_3) = true) ∧ ((a1_1 != a1_3) = false) ∧ (decide (a1_4 ≤ a1_2) = false) ∧ (decide (a1_2 < 0) = false) ∧ (decide ((((rd_T35 l0 a1_1).f1).length : Int) ≤ a1_2) = true)) ∨ ((decide (0 ≤ a1_1) = true) ∧ (decide (a1_1 < (l0.length : Int)) = true) ∧ (decide (0 ≤ a1_3) = true) ∧ (decide (a1_3 < (l0.length : Int)) = true) ∧ (decide (a1_3 < a1_1) = false) ∧ ((a1_1 == a1_3) = true) ∧ ((a1_1 != a1_3) = false) ∧ (decide (a1_4 ≤ a1_2) = false) ∧ (decide (a1_2 < 0) = false) ∧ (decide ((((rd_T35 l0 a1_1).f1).length : Int) ≤ a1_2) = false) ∧ (decide (a1_4 < 0) = true)) ∨ ((decide (0 ≤ a1_1) = true) ∧ (decide (a1_1 < (l0.length : Int)) = true) ∧ (decide (0 ≤ a1_3) = true) ∧ (decide (a1_3 < (l0.length : Int)) = true) ∧ (decide (a1_3 < a1_1) = false) ∧ ((a1_1 == a1_3) = true) ∧ ((a1_1 != a1_3) = false) ∧ (decide (a1_4 ≤ a1_2) = false) ∧ (decide (a1_2 < 0) = false) ∧ (decide ((((rd_T35 l0 a1_1).f1).length : Int) ≤ a1_2) = false) ∧ (decide (a1_4 < 0) = false) ∧ (decide ((((rd_T35 l0 a1_3).f1).length : Int) ≤ a1_4) = true)) ∨ ((decide (0 ≤ a1_1) = true) ∧ (decide (a1_1 < (l0.length : Int)) = true) ∧ (decide (0 ≤ a1_3) = true) ∧ (decide (a1_3 < (l0.length : Int)) = true) ∧ (decide (a1_3 < a1_1) = false) ∧ ((a1_1 == a1_3) = false) ∧ ((a1_1 != a1_3) = true) ∧ (decide (a1_2 < 0) = true)) ∨ ((decide (0 ≤ a1_1) = true) ∧ (decide (a1_1 < (l0.length : Int)) = true) ∧ (decide (0 ≤ a1_3) = true) ∧ (decide (a1_3 < (l0.length : Int)) = true) ∧ (decide (a1_3 < a1_1) = false) ∧ ((a1_1 == a1_3) = false) ∧ ((a1_1 != a1_3) = true) ∧ (decide (a1_2 < 0) = false) ∧ (decide ((((rd_T35 l0 a1_1).f1).length : Int) ≤ a1_2) = true)) ∨ ((decide (0 ≤ a1_1) = true) ∧ (decide (a1_1 < (l0.length : Int)) = true) ∧ (decide (0 ≤ a1_3) = true) ∧ (decide (a1_3 < (l0.length : Int)) = true) ∧ (decide (a1_3 < a1_1) = false) ∧ ((a1_1 == a1_3) = false) ∧ ((a1_1 != a1_3) = true) ∧ (decide (a1_2 < 0) = false) ∧ (decide ((((rd_T35 l0 a1_1).f1).length : Int) ≤ a1_2) = false) ∧ (decide (a1_4 < 0) = true)) ∨ ((decide (0 ≤ a1_1) = true) ∧ (decide (a1_1 < (l0.length : Int)) = true) ∧ (decide (0 ≤ a1_3) = true) ∧ (decide (a1_3 < (l0.length : Int)) = true) ∧ (decide (a1_3 < a1_1) = false) ∧ ((a1_1 == a1_3) = false) ∧ ((a1_1 != a1_3) = true) ∧ (decide (a1_2 < 0) = false) ∧ (decide ((((rd_T35 l0 a1_1).f1).length : Int) ≤ a1_2) = false) ∧ (decide (a1_4 < 0) = false) ∧ (decide ((((rd_T35 l0 a1_3).f1).length : Int) ≤ a1_4) = true))) :
    Calls Try.prog 34 #[.slice A0 l0.length c0, .agg #[.int .i64 a1_0, .int .i64 a1_1, .int .i64 a1_2, .int .i64 a1_3, .int .i64 a1_4, .int .i64 a1_5]] w fun e w' => ∃ v0_ : Value, e = .returned (.tuple #[v0_, .bool false]) ∧ Kd.N k35 35 w' w.heap.size (fun k_ => (P0_ k_ ∨ w.heap.size ≤ k_)) v0_ ([] : List (S35)) ∧ Below w.heap.size w w' := by
  have hu24 := Try.underlying24
  have HO0 := Aside0.mk (show Kd.V k35 35 w w.heap.size (fun k_ => (P0_ k_ ∨ w.heap.size ≤ k_)) (.slice A0 l0.length c0) l0 from Kd.V_mono hs0 (fun k_ hk => .inl hk))
  have HB := Aside0.mk (Below.refl w.heap.size w)
  rcases key with ⟨c3b0, c4b0, c5b0, c6b0, c7b0⟩ | ⟨c3b0, c4b0, c5b0, c6b0, c7b0, c11b0, c11b1, c12b0⟩ | ⟨c3b0, c4b0, c5b0, c6b0, c7b0, c11b0, c11b1, c12b0, c16b0⟩ | ⟨c3b0, c4b0, c5b0, c6b0, c7b0, c11b0, c11b1, c12b0, c16b0, c20b0⟩ | ⟨c3b0, c4b0, c5b0, c6b0, c7b0, c11b0, c11b1, c12b0, c16b0, c20b0, c24b0⟩ | ⟨c3b0, c4b0, c5b0, c6b0, c7b0, c11b0, c11b1, c12b0, c16b0, c20b0, c24b0, c28b0⟩ | ⟨c3b0, c4b0, c5b0, c6b0, c7b0, c11b0, c11b1, c68b0⟩ | ⟨c3b0, c4b0, c5b0, c6b0, c7b0, c11b0, c11b1, c68b0, c72b0⟩ | ⟨c3b0, c4b0, c5b0, c6b0, c7b0, c11b0, c11b1, c68b0, c72b0, c76b0⟩ | ⟨c3b0, c4b0, c5b0, c6b0, c7b0, c11b0, c11b1, c68b0, c72b0, c76b0, c80b0⟩
  all_goals
   go_enter Try.func34, Try.ntmps34
   try go_wp2_with (first | ((with_reducible refine gate_dst (N := 3) rfl ?_); (try (refine gate_guard (by rfl) ?_; dsimp only)); refine box_event ?hg (N := 3) ?hd (cs := #[.int .i64 a1_0, .int .i64 a1_1, .int .i64 a1_2, .int .i64 a1_3, .int .i64 a1_4, .int .i64 a1_5]) (t := 24) ?hr ?_; (case hd => rfl); (case hg => rfl); (case hr => first | (go_simp; done) | (go_simp; rfl)); intro gb235 hg w8 hbox hb; have n0_ := Aside0.mk (Kd.V_below (Kd.V_elderB (by (with_reducible repeat (first | apply Kd.V_alloc | apply Kd.V_drewN | apply Kd.V_drew)); exact HO0.out) gb235 (Nat.le_of_eq hg.symm)) hb); have n1_ := Aside0.mk (below_step (by repeat (first | (with_reducible first | exact HB.out | apply below_alloc | apply pw_below_drewN | apply below_drew1) | exact HB.out)) hb); have n2_ := Aside0.mk (hbox); have n3_ := Aside0.mk ((by rw [hg]; exact (below_size (by repeat (first | (with_reducible first | exact HB.out | apply below_alloc | apply pw_below_drewN | apply below_drew1) | exact HB.out))) : w.heap.size ≤ gb235)); have n4_ := Aside0.mk ((by rw [hg]; exact (below_size (by repeat (first | (with_reducible first | exact HB.out | apply below_alloc | apply pw_below_drewN | apply below_drew1) | exact HB.out))) : w.heap.size ≤ gb235)); clear HO0; clear HB; have HO0 := n0_; have HB := n1_; have BK235 := n2_; have GW235 := n3_; have GE235 := n4_; clear n0_ n1_ n2_ n3_ n4_; clear hb hbox hg))
   have n0_ := Aside0.mk (Kd.V_drew HO0.out)
   have n1_ := Aside0.mk (blk_drew BK235.out)
   have n2_ := Aside0.mk (below_drew1 HB.out)
   clear HO0 BK235 HB
   have HO0 := n0_; have BK235 := n1_; have HB := n2_
   clear n0_ n1_ n2_
   have p236 : 0 ≤ (a1_1 : Int) := of_decide_eq_true (by first | (with_reducible assumption) | assumption)
   have q236 : a1_1 < (l0.length : Int) := of_decide_eq_true (by first | (with_reducible assumption) | assumption)
   obtain ⟨ad236, A236_1, c236_1, e236, hx236_0, hx236_1, hl236_1, hi236_1⟩ := at_T35 (Kd.V_reads' HO0.out).2.2 a1_1 p236 q236
   cases e236
   obtain ⟨ce236, hce236, hMe236, hcc236⟩ := Kd.V_get HO0.out z35 a1_1 p236 (by first | exact q236 | exact of_decide_eq_true (by first | (with_reducible assumption) | assumption) | (have e_ := (Kd.V_reads' HO0.out).1; omega))
   obtain ⟨ua236_1, uc236_1, rfl, ul236_1, ge236_1⟩ := k35_openF hMe236
   have hv236_1 := hcc236 1 _ rfl
   rw [add_field _ _ 1 (by omega)] at hv236_1
   replace hv236_1 := Option.some.inj (hv236_1.symm.trans hx236_1)
   injection hv236_1 with hva_ hvn_ hvc_
   rw [hva_] at ge236_1
   rw [hvc_] at ul236_1
   have HL236_1 := Aside0.mk (show Kd.V (Kd.int .i64) 3 _ w.heap.size _ _ ((rd_T35 l0 a1_1).f1) from Kd.V_mk ul236_1 ge236_1)
   clear hva_ hvn_ hvc_ ge236_1 ul236_1 hcc236 hce236
   have HR236_1 := Aside0.mk hi236_1
   have HC236_1 := Aside0.mk hl236_1
   clear hi236_1 hl236_1
   replace p236 := eq_true p236
   replace q236 := eq_true q236
   have p237 : 0 ≤ (a1_3 : Int) := of_decide_eq_true (by first | (with_reducible assumption) | assumption)
   have q237 : a1_3 < (l0.length : Int) := of_decide_eq_true (by first | (with_reducible assumption) | assumption)
   obtain ⟨ad237, A237_1, c237_1, e237, hx237_0, hx237_1, hl237_1, hi237_1⟩ := at_T35 (Kd.V_reads' HO0.out).2.2 a1_3 p237 q237
   obtain rfl : ad236 = ad237 := (by injection e237)
   obtain ⟨ce237, hce237, hMe237, hcc237⟩ := Kd.V_get HO0.out z35 a1_3 p237 (by first | exact q237 | exact of_decide_eq_true (by first | (with_reducible assumption) | assumption) | (have e_ := (Kd.V_reads' HO0.out).1; omega))
   obtain ⟨ua237_1, uc237_1, rfl, ul237_1, ge237_1⟩ := k35_openF hMe237
   have hv237_1 := hcc237 1 _ rfl
   rw [add_field _ _ 1 (by omega)] at hv237_1
   replace hv237_1 := Option.some.inj (hv237_1.symm.trans hx237_1)
   injection hv237_1 with hva_ hvn_ hvc_
   rw [hva_] at ge237_1
   rw [hvc_] at ul237_1
   have HL237_1 := Aside0.mk (show Kd.V (Kd.int .i64) 3 _ w.heap.size _ _ ((rd_T35 l0 a1_3).f1) from Kd.V_mk ul237_1 ge237_1)
   clear hva_ hvn_ hvc_ ge237_1 ul237_1 hcc237 hce237
   have HR237_1 := Aside0.mk hi237_1
   have HC237_1 := Aside0.mk hl237_1
   clear hi237_1 hl237_1
   replace p237 := eq_true p237
   replace q237 := eq_true q237
   refine start_ (n := 14) (S := fun w' => w'.cell? ⟨gb235, 0, none⟩ = some (.int .i64 a1_0) ∧ w'.cell? ⟨gb235, 1, none⟩ = some (.int .i64 a1_1) ∧ w'.cell? ⟨gb235, 2, none⟩ = some (.int .i64 a1_2) ∧ w'.cell? ⟨gb235, 3, none⟩ = some (.int .i64 a1_3) ∧ w'.cell? ⟨gb235, 4, none⟩ = some (.int .i64 a1_4) ∧ w'.cell? ⟨gb235, 5, none⟩ = some (.int .i64 a1_5) ∧ w'.cell? (ad236.add ((a1_1).toNat * 2)) = some (.int .i64 ((rd_T35 l0 a1_1).f0)) ∧ w'.cell? ⟨(ad236.add ((a1_1).toNat * 2)).block, (ad236.add ((a1_1).toNat * 2)).off + 1, none⟩ = some (.slice A236_1 ((rd_T35 l0 a1_1).f1).length c236_1) ∧ w'.cell? (ad236.add ((a1_3).toNat * 2)) = some (.int .i64 ((rd_T35 l0 a1_3).f0)) ∧ w'.cell? ⟨(ad236.add ((a1_3).toNat * 2)).block, (ad236.add ((a1_3).toNat * 2)).off + 1, none⟩ = some (.slice A237_1 ((rd_T35 l0 a1_3).f1).length c237_1)) (ds := []) #[false, false, false, false, false, false, false, false, false, false, false, false, false, false] (by kernel_rfl) rfl rfl ⟨(blk_cell BK235.out 0).trans rfl, (blk_cell BK235.out 1).trans rfl, (blk_cell BK235.out 2).trans rfl, (blk_cell BK235.out 3).trans rfl, (blk_cell BK235.out 4).trans rfl, (blk_cell BK235.out 5).trans rfl, hx236_0, hx236_1, hx237_0, hx237_1⟩ (fun hHeld => ?_); refine with_tabW haulierref36_exchange.tab1 haulierref36_exchange.bits1 (fun HT_ HW_ => ?_)
   generalize w8.drew = w9 at HO0 BK235 HB HL236_1 HL237_1 HR236_1 HR237_1 hx236_0 hx236_1 hx237_0 hx237_1 hHeld ⊢
   refine pure_ (i := 0) (N := some 11) (v := ?_) (a' := ?_) #[true, false, false, false, false, false, false, false, false, false, false, false, false, false] rfl rfl (any_of HT_.out (by kernel_rfl)) (fun _ _ _ h => h) (Or.inl ⟨by rfl, ?_⟩) ?_ ?_
   rotate_left
   ·intro w'
    go_simp
    with_reducible rfl
   rotate_left
   ·simp only [Act.put, List.setIfInBounds_toArray, List.set_cons_zero, List.set_cons_succ, i64_w, i32_w]
    rfl
   refine pure_ (i := 1) (N := some 12) (v := ?_) (a' := ?_) #[true, true, false, false, false, false, false, false, false, false, false, false, false, false] rfl rfl (any_of HT_.out (by kernel_rfl)) (fun _ _ _ h => h) (Or.inl ⟨by rfl, ?_⟩) ?_ ?_
   rotate_left
   ·intro w'
    go_simp
    with_reducible rfl
   rotate_left
   ·simp only [Act.put, List.setIfInBounds_toArray, List.set_cons_zero, List.set_cons_succ, i64_w, i32_w]
    rfl
   refine pure_ (i := 6) (N := some 17) (v := ?_) (a' := ?_) #[true, true, false, false, false, false, true, false, false, false, false, false, false, false] rfl rfl (any_of HT_.out (by kernel_rfl)) (fun _ _ _ h => h) (Or.inl ⟨by rfl, ?_⟩) ?_ ?_
   rotate_left
   ·intro w'
    go_simp
    with_reducible rfl
   rotate_left
   ·simp only [Act.put, List.setIfInBounds_toArray, List.set_cons_zero, List.set_cons_succ, i64_w, i32_w]
    rfl
   refine pure_ (i := 7) (N := some 18) (v := ?_) (a' := ?_) #[true, true, false, false, false, false, true, true, false, false, false, false, false, false] rfl rfl (any_of HT_.out (by kernel_rfl)) (fun _ _ _ h => h) (Or.inl ⟨by rfl, ?_⟩) ?_ ?_
   rotate_left
   ·intro w'
    go_simp
    with_reducible rfl
   rotate_left
   ·simp only [Act.put, List.setIfInBounds_toArray, List.set_cons_zero, List.set_cons_succ, i64_w, i32_w]
    rfl
   refine take_ (i := 2) (N := some 13) (v := ?_) (a' := ?_) #[true, true, true, false, false, false, true, true, false, false, false, false, false, false] rfl rfl (take_ofW HT_.out HW_.out (by kernel_rfl)) (fun _ _ _ h => h) (Or.inl ⟨by rfl, ?_⟩) hHeld ?_ ?_
   rotate_left
   ·rintro w' ⟨s0, s1, s2, s3, s4, s5, s6, s7, s8, s9⟩
    go_simp
    with_reducible rfl
   rotate_left
   ·simp only [Act.put, List.setIfInBounds_toArray, List.set_cons_zero, List.set_cons_succ, i64_w, i32_w]
    rfl
   refine pure_ (i := 3) (N := some 14) (v := ?_) (a' := ?_) #[true, true, true, true, false, false, true, true, false, false, false, false, false, false] rfl rfl (any_of HT_.out (by kernel_rfl)) (fun _ _ _ h => h) (Or.inl ⟨by rfl, ?_⟩) ?_ ?_
   rotate_left
   ·intro w'
    go_simp
    with_reducible rfl
   rotate_left
   ·simp only [Act.put, List.setIfInBounds_toArray, List.set_cons_zero, List.set_cons_succ, i64_w, i32_w]
    rfl
   refine pure_ (i := 4) (N := some 15) (v := ?_) (a' := ?_) #[true, true, true, true, true, false, true, true, false, false, false, false, false, false] rfl rfl (any_of HT_.out (by kernel_rfl)) (fun _ _ _ h => h) (Or.inl ⟨by rfl, ?_⟩) ?_ ?_
   rotate_left
   ·intro w'
    go_simp
    with_reducible rfl
   rotate_left
   ·simp only [Act.put, List.setIfInBounds_toArray, List.set_cons_zero, List.set_cons_succ, i64_w, i32_w]
    rfl
   refine take_ (i := 5) (N := some 16) (v := ?_) (a' := ?_) #[true, true, true, true, true, true, true, true, false, false, false, false, false, false] rfl rfl (take_ofW HT_.out HW_.out (by kernel_rfl)) (fun _ _ _ h => h) (Or.inl ⟨by rfl, ?_⟩) hHeld ?_ ?_
   rotate_left
   ·rintro w' ⟨s0, s1, s2, s3, s4, s5, s6, s7, s8, s9⟩
    go_simp
    with_reducible rfl
   rotate_left
   ·simp only [Act.put, List.setIfInBounds_toArray, List.set_cons_zero, List.set_cons_succ, i64_w, i32_w]
    rfl
   refine pure_ (i := 12) (N := some 6) (v := ?_) (a' := ?_) #[true, true, true, true, true, true, true, true, false, false, false, false, true, false] rfl rfl (any_of HT_.out (by kernel_rfl)) (fun _ _ _ h => h) (Or.inl ⟨by rfl, ?_⟩) ?_ ?_
   rotate_left
   ·intro w'
    go_simp
    with_reducible rfl
   rotate_left
   ·simp only [Act.put, List.setIfInBounds_toArray, List.set_cons_zero, List.set_cons_succ, i64_w, i32_w]
    rfl
   refine take_ (i := 8) (N := some 19) (v := ?_) (a' := ?_) #[true, true, true, true, true, true, true, true, true, false, false, false, true, false] rfl rfl (take_ofW HT_.out HW_.out (by kernel_rfl)) (fun _ _ _ h => h) (Or.inl ⟨by rfl, ?_⟩) hHeld ?_ ?_
   rotate_left
   ·rintro w' ⟨s0, s1, s2, s3, s4, s5, s6, s7, s8, s9⟩
    go_simp
    with_reducible rfl
   rotate_left
   ·simp only [Act.put, List.setIfInBounds_toArray, List.set_cons_zero, List.set_cons_succ, i64_w, i32_w]
    rfl
   refine pure_ (i := 9) (N := some 20) (v := ?_) (a' := ?_) #[true, true, true, true, true, true, true, true, true, true, false, false, true, false] rfl rfl (any_of HT_.out (by kernel_rfl)) (fun _ _ _ h => h) (Or.inl ⟨by rfl, ?_⟩) ?_ ?_
   rotate_left
   ·intro w'
    go_simp
    with_reducible rfl
   rotate_left
   ·simp only [Act.put, List.setIfInBounds_toArray, List.set_cons_zero, List.set_cons_succ, i64_w, i32_w]
    rfl
   refine pure_ (i := 10) (N := some 21) (v := ?_) (a' := ?_) #[true, true, true, true, true, true, true, true, true, true, true, false, true, false] rfl rfl (any_of HT_.out (by kernel_rfl)) (fun _ _ _ h => h) (Or.inl ⟨by rfl, ?_⟩) ?_ ?_
   rotate_left
   ·intro w'
    go_simp
    with_reducible rfl
   rotate_left
   ·simp only [Act.put, List.setIfInBounds_toArray, List.set_cons_zero, List.set_cons_succ, i64_w, i32_w]
    rfl
   refine take_ (i := 11) (N := some 22) (v := ?_) (a' := ?_) #[true, true, true, true, true, true, true, true, true, true, true, true, true, false] rfl rfl (take_ofW HT_.out HW_.out (by kernel_rfl)) (fun _ _ _ h => h) (Or.inl ⟨by rfl, ?_⟩) hHeld ?_ ?_
   rotate_left
   ·rintro w' ⟨s0, s1, s2, s3, s4, s5, s6, s7, s8, s9⟩
    go_simp
    with_reducible rfl
   rotate_left
   ·simp only [Act.put, List.setIfInBounds_toArray, List.set_cons_zero, List.set_cons_succ, i64_w, i32_w]
    rfl
   refine pure_ (i := 13) (N := some 7) (v := ?_) (a' := ?_) #[true, true, true, true, true, true, true, true, true, true, true, true, true, true] rfl rfl (any_of HT_.out (by kernel_rfl)) (fun _ _ _ h => h) (Or.inl ⟨by rfl, ?_⟩) ?_ ?_
   rotate_left
   ·intro w'
    go_simp
    with_reducible rfl
   rotate_left
   ·simp only [Act.put, List.setIfInBounds_toArray, List.set_cons_zero, List.set_cons_succ, i64_w, i32_w]
    rfl
   refine done_ (done_of HT_.out (by kernel_rfl)) ?_
   have hcz10_0 : w9.cell? ⟨gb235, 0, none⟩ = some (.int .i64 a1_0) := (blk_cell BK235.out 0).trans rfl
   have hcz10_1 : w9.cell? ⟨gb235, 1, none⟩ = some (.int .i64 a1_1) := (blk_cell BK235.out 1).trans rfl
   have hcz10_2 : w9.cell? ⟨gb235, 2, none⟩ = some (.int .i64 a1_2) := (blk_cell BK235.out 2).trans rfl
   have hcz10_3 : w9.cell? ⟨gb235, 3, none⟩ = some (.int .i64 a1_3) := (blk_cell BK235.out 3).trans rfl
   have hcz10_4 : w9.cell? ⟨gb235, 4, none⟩ = some (.int .i64 a1_4) := (blk_cell BK235.out 4).trans rfl
   have hcz10_5 : w9.cell? ⟨gb235, 5, none⟩ = some (.int .i64 a1_5) := (blk_cell BK235.out 5).trans rfl
   have hfz10_0 := blk_frozen BK235.out 0
   have hfz10_1 := blk_frozen BK235.out 1
   have hfz10_2 := blk_frozen BK235.out 2
   have hfz10_3 := blk_frozen BK235.out 3
   have hfz10_4 := blk_frozen BK235.out 4
   have hfz10_5 := blk_frozen BK235.out 5
   try go_wp2
   go_ret2
   exact ⟨_, by first | rfl | (simp [errW_none, errW_some] <;> rfl) | (simp [*, errW_none, errW_some] <;> rfl), by first | exact Kd.S_nil _ _ _ _ _ | exact Kd.N_nil _ _ _ _ _ | exact Kd.V_nil _ _ _ _ _ | exact Kd.Q_nil _ _ _ _ _ | exact Kd.R_nil _ _ _ _ _, by repeat (first | (with_reducible first | exact HB.out | apply below_alloc | apply pw_below_drewN | apply below_drew1 | refine below_set ?_ GE235.out) | exact HB.out)⟩
set_option maxHeartbeats 8000000 in
set_option maxRecDepth 100000 in
theorem haulierref36_exchange.rest (k : Nat) (P0_ : Nat → Prop) (A0 : Option Addr) (c0 : Nat) (l0 : List (S35)) (a1_0 : Int) (a1_1 : Int) (a1_2 : Int) (a1_3 : Int) (a1_4 : Int) (a1_5 : Int) (w : World) (hs0 : Kd.V k35 35 w w.heap.size (fun k_ => P0_ k_) (.slice A0 l0.length c0) l0) (r1 : List (S35)) (r2 : Bool) (key : ((decide (0 ≤ a1_1) = true) ∧ (decide (a1_1 < (l0.length : Int)) = true) ∧ (decide (0 ≤ a1_3) = true) ∧ (decide (a1_3 < (l0.length : Int)) = true) ∧ (decide (a1_3 < a1_1) = false) ∧ ((a1_1 == a1_3) = true) ∧ ((a1_1 != a1_3) = false) ∧ (decide (a1_4 ≤ a1_2) = false)) ∨ ((decide (0 ≤ a1_1) = true) ∧ (decide (a1_1 < (l0.length : Int)) = true) ∧ (decide (0 ≤ a1_3) = true) ∧ (decide (a1_3 < (l0.length : Int)) = true) ∧ (decide (a1_3 < a1_1) = false) ∧ ((a1_1 == a1_3) = false) ∧ ((a1_1 != a1_3) = true))) (H : (if a1_2 < 0 then (some (([] : List (S35)), false)) else (if a1_2 ≥ (((rd_T35 l0 a1_1).f1).length : Int) then (some (([] : List (S35)), false)) else (if a1_4 < 0 then (some (([] : List (S35)), false)) else (if a1_4 ≥ (((rd_T35 l0 a1_3).f1).length : Int) then (some (([] : List (S35)), false)) else (if 0 ≤ a1_2 then (if a1_2 < (((rd_T35 l0 a1_1).f1).length : Int) then (if 0 ≤ a1_4 then (if a1_4 < (((rd_T35 l0 a1_3).f1).length : Int) then ((haulierref36_cut.f k ((rd_T35 l0 a1_1).f1) a1_2 1).bind fun t240 => ((haulierref36_put.f t240 a1_2 (([rd ((rd_T35 l0 a1_3).f1) a1_4] : List Int))).bind fun t246 => ((haulierref36_with.f k l0 a1_1 t246).bind fun t249 => (if a1_3 < (t249.length : Int) then ((haulierref36_cut.f k ((rd_T35 t249 a1_3).f1) a1_4 1).bind fun t253 => ((haulierref36_put.f t253 a1_4 (([rd ((rd_T35 l0 a1_1).f1) a1_2] : List Int))).bind fun t259 => ((haulierref36_with.f k t249 a1_3 t259).bind fun t262 => (some (t262, true))))) else (none))))) else (none)) else (none)) else (none)) else (none)))))) = some (r1, r2)) :
    Calls Try.prog 34 #[.slice A0 l0.length c0, .agg #[.int .i64 a1_0, .int .i64 a1_1, .int .i64 a1_2, .int .i64 a1_3, .int .i64 a1_4, .int .i64 a1_5]] w fun e w' => ∃ v0_ : Value, e = .returned (.tuple #[v0_, .bool r2]) ∧ Kd.N k35 35 w' w.heap.size (fun k_ => (P0_ k_ ∨ w.heap.size ≤ k_)) v0_ r1 ∧ Below w.heap.size w w' := by
  have hu24 := Try.underlying24
  have HO0 := Aside0.mk (show Kd.V k35 35 w w.heap.size (fun k_ => (P0_ k_ ∨ w.heap.size ≤ k_)) (.slice A0 l0.length c0) l0 from Kd.V_mono hs0 (fun k_ hk => .inl hk))
  have HB := Aside0.mk (Below.refl w.heap.size w)
  rcases key with ⟨c3b0, c4b0, c5b0, c6b0, c7b0, c11b0, c11b1, c12b0⟩ | ⟨c3b0, c4b0, c5b0, c6b0, c7b0, c11b0, c11b1⟩
  all_goals
   by_cases c16 : a1_2 < 0
   ·rw [if_pos c16] at H
    have c16b0 : decide (a1_2 < 0) = true := decide_eq_true c16
    clear c16
    simp only [Option.some.injEq, Prod.mk.injEq] at H
    obtain ⟨rfl, rfl⟩ := H
    first | exact haulierref36_exchange.no1 k P0_ A0 c0 l0 a1_0 a1_1 a1_2 a1_3 a1_4 a1_5 w hs0 (.inr (.inr (.inl ⟨c3b0, c4b0, c5b0, c6b0, c7b0, c11b0, c11b1, c12b0, c16b0⟩))) | exact haulierref36_exchange.no1 k P0_ A0 c0 l0 a1_0 a1_1 a1_2 a1_3 a1_4 a1_5 w hs0 (.inr (.inr (.inr (.inr (.inr (.inr (.inl ⟨c3b0, c4b0, c5b0, c6b0, c7b0, c11b0, c11b1, c16b0⟩)))))))
   rw [if_neg c16] at H
   have c16b0 : decide (a1_2 < 0) = false := decide_eq_false c16
   clear c16
   by_cases c20 : a1_2 ≥ (((rd_T35 l0 a1_1).f1).length : Int)
   ·rw [if_pos c20] at H
    have c20b0 : decide ((((rd_T35 l0 a1_1).f1).length : Int) ≤ a1_2) = true := decide_eq_true c20
    clear c20
    simp only [Option.some.injEq, Prod.mk.injEq] at H
    obtain ⟨rfl, rfl⟩ := H
    first | exact haulierref36_exchange.no1 k P0_ A0 c0 l0 a1_0 a1_1 a1_2 a1_3 a1_4 a1_5 w hs0 (.inr (.inr (.inr (.inl ⟨c3b0, c4b0, c5b0, c6b0, c7b0, c11b0, c11b1, c12b0, c16b0, c20b0⟩)))) | exact haulierref36_exchange.no1 k P0_ A0 c0 l0 a1_0 a1_1 a1_2 a1_3 a1_4 a1_5 w hs0 (.inr (.inr (.inr (.inr (.inr (.inr (.inr (.inl ⟨c3b0, c4b0, c5b0, c6b0, c7b0, c11b0, c11b1, c16b0, c20b0⟩))))))))
   rw [if_neg c20] at H
   have c20b0 : decide ((((rd_T35 l0 a1_1).f1).length : Int) ≤ a1_2) = false := decide_eq_false c20
   clear c20
   by_cases c24 : a1_4 < 0
   ·rw [if_pos c24] at H
    have c24b0 : decide (a1_4 < 0) = true := decide_eq_true c24
    clear c24
    simp only [Option.some.injEq, Prod.mk.injEq] at H
    obtain ⟨rfl, rfl⟩ := H
    first | exact haulierref36_exchange.no1 k P0_ A0 c0 l0 a1_0 a1_1 a1_2 a1_3 a1_4 a1_5 w hs0 (.inr (.inr (.inr (.inr (.inl ⟨c3b0, c4b0, c5b0, c6b0, c7b0, c11b0, c11b1, c12b0, c16b0, c20b0, c24b0⟩))))) | exact haulierref36_exchange.no1 k P0_ A0 c0 l0 a1_0 a1_1 a1_2 a1_3 a1_4 a1_5 w hs0 (.inr (.inr (.inr (.inr (.inr (.inr (.inr (.inr (.inl ⟨c3b0, c4b0, c5b0, c6b0, c7b0, c11b0, c11b1, c16b0, c20b0, c24b0⟩)))))))))
   rw [if_neg c24] at H
   have c24b0 : decide (a1_4 < 0) = false := decide_eq_false c24
   clear c24
   by_cases c28 : a1_4 ≥ (((rd_T35 l0 a1_3).f1).length : Int)
   ·rw [if_pos c28] at H
    have c28b0 : decide ((((rd_T35 l0 a1_3).f1).length : Int) ≤ a1_4) = true := decide_eq_true c28
    clear c28
    simp only [Option.some.injEq, Prod.mk.injEq] at H
    obtain ⟨rfl, rfl⟩ := H
    first | exact haulierref36_exchange.no1 k P0_ A0 c0 l0 a1_0 a1_1 a1_2 a1_3 a1_4 a1_5 w hs0 (.inr (.inr (.inr (.inr (.inr (.inl ⟨c3b0, c4b0, c5b0, c6b0, c7b0, c11b0, c11b1, c12b0, c16b0, c20b0, c24b0, c28b0⟩)))))) | exact haulierref36_exchange.no1 k P0_ A0 c0 l0 a1_0 a1_1 a1_2 a1_3 a1_4 a1_5 w hs0 (.inr (.inr (.inr (.inr (.inr (.inr (.inr (.inr (.inr (⟨c3b0, c4b0, c5b0, c6b0, c7b0, c11b0, c11b1, c16b0, c20b0, c24b0, c28b0⟩))))))))))
   rw [if_neg c28] at H
   have c28b0 : decide ((((rd_T35 l0 a1_3).f1).length : Int) ≤ a1_4) = false := decide_eq_false c28
   clear c28
   by_cases c32 : 0 ≤ a1_2
   rotate_left
   ·rw [if_neg c32] at H
    exact absurd H (by simp)
   rw [if_pos c32] at H
   have c32b0 : decide (0 ≤ a1_2) = true := decide_eq_true c32
   clear c32
   by_cases c33 : a1_2 < (((rd_T35 l0 a1_1).f1).length : Int)
   rotate_left
   ·rw [if_neg c33] at H
    exact absurd H (by simp)
   rw [if_pos c33] at H
   have c33b0 : decide (a1_2 < (((rd_T35 l0 a1_1).f1).length : Int)) = true := decide_eq_true c33
   clear c33
   by_cases c34 : 0 ≤ a1_4
   rotate_left
   ·rw [if_neg c34] at H
    exact absurd H (by simp)
   rw [if_pos c34] at H
   have c34b0 : decide (0 ≤ a1_4) = true := decide_eq_true c34
   clear c34
   by_cases c35 : a1_4 < (((rd_T35 l0 a1_3).f1).length : Int)
   rotate_left
   ·rw [if_neg c35] at H
    exact absurd H (by simp)
   rw [if_pos c35] at H
   have c35b0 : decide (a1_4 < (((rd_T35 l0 a1_3).f1).length : Int)) = true := decide_eq_true c35
   clear c35
   replace H := Option.bind_eq_some_iff.mp H
   obtain ⟨t240, A360, H⟩ := H
   replace H : ((haulierref36_put.f t240 a1_2 (([rd ((rd_T35 l0 a1_3).f1) a1_4] : List Int))).bind fun t246 => ((haulierref36_with.f k l0 a1_1 t246).bind fun t249 => (if a1_3 < (t249.length : Int) then ((haulierref36_cut.f k ((rd_T35 t249 a1_3).f1) a1_4 1).bind fun t253 => ((haulierref36_put.f t253 a1_4 (([rd ((rd_T35 l0 a1_1).f1) a1_2] : List Int))).bind fun t259 => ((haulierref36_with.f k t249 a1_3 t259).bind fun t262 => (some (t262, true))))) else (none)))) = some (r1, r2) := H
   have A36 := Aside0.mk A360
   clear A360
   obtain ⟨y243, hy243⟩ : ∃ y_ : List Int, y_ = (([rd ((rd_T35 l0 a1_3).f1) a1_4] : List Int)) := ⟨_, rfl⟩
   replace H : ((haulierref36_put.f t240 a1_2 y243).bind fun t246 => ((haulierref36_with.f k l0 a1_1 t246).bind fun t249 => (if a1_3 < (t249.length : Int) then ((haulierref36_cut.f k ((rd_T35 t249 a1_3).f1) a1_4 1).bind fun t253 => ((haulierref36_put.f t253 a1_4 (([rd ((rd_T35 l0 a1_1).f1) a1_2] : List Int))).bind fun t259 => ((haulierref36_with.f k t249 a1_3 t259).bind fun t262 => (some (t262, true))))) else (none)))) = some (r1, r2) := by first | (rw [hy243]; with_reducible exact H) | (have H2_ := (Option.bind_some _ _).symm.trans H; rw [hy243]; with_reducible exact H2_) | (have H2_ := (Option.bind_some _ _).symm.trans H; with_reducible exact H2_) | with_reducible exact H | (rw [hy243]; exact H) | exact H
   have Ny243 := Aside0.mk hy243
   clear hy243
   replace H := Option.bind_eq_some_iff.mp H
   obtain ⟨t246, A370, H⟩ := H
   replace H : ((haulierref36_with.f k l0 a1_1 t246).bind fun t249 => (if a1_3 < (t249.length : Int) then ((haulierref36_cut.f k ((rd_T35 t249 a1_3).f1) a1_4 1).bind fun t253 => ((haulierref36_put.f t253 a1_4 (([rd ((rd_T35 l0 a1_1).f1) a1_2] : List Int))).bind fun t259 => ((haulierref36_with.f k t249 a1_3 t259).bind fun t262 => (some (t262, true))))) else (none))) = some (r1, r2) := H
   have A37 := Aside0.mk A370
   clear A370
   replace H := Option.bind_eq_some_iff.mp H
   obtain ⟨t249, A380, H⟩ := H
   replace H : (if a1_3 < (t249.length : Int) then ((haulierref36_cut.f k ((rd_T35 t249 a1_3).f1) a1_4 1).bind fun t253 => ((haulierref36_put.f t253 a1_4 (([rd ((rd_T35 l0 a1_1).f1) a1_2] : List Int))).bind fun t259 => ((haulierref36_with.f k t249 a1_3 t259).bind fun t262 => (some (t262, true))))) else (none)) = some (r1, r2) := H
   have A38 := Aside0.mk A380
   clear A380
   by_cases c39 : a1_3 < (t249.length : Int)
   rotate_left
   ·rw [if_neg c39] at H
    exact absurd H (by simp)
   rw [if_pos c39] at H
   have c39b0 : decide (a1_3 < (t249.length : Int)) = true := decide_eq_true c39
   clear c39
   replace H := Option.bind_eq_some_iff.mp H
   obtain ⟨t253, A400, H⟩ := H
   replace H : ((haulierref36_put.f t253 a1_4 (([rd ((rd_T35 l0 a1_1).f1) a1_2] : List Int))).bind fun t259 => ((haulierref36_with.f k t249 a1_3 t259).bind fun t262 => (some (t262, true)))) = some (r1, r2) := H
   have A40 := Aside0.mk A400
   clear A400
   obtain ⟨y256, hy256⟩ : ∃ y_ : List Int, y_ = (([rd ((rd_T35 l0 a1_1).f1) a1_2] : List Int)) := ⟨_, rfl⟩
   replace H : ((haulierref36_put.f t253 a1_4 y256).bind fun t259 => ((haulierref36_with.f k t249 a1_3 t259).bind fun t262 => (some (t262, true)))) = some (r1, r2) := by first | (rw [hy256]; with_reducible exact H) | (have H2_ := (Option.bind_some _ _).symm.trans H; rw [hy256]; with_reducible exact H2_) | (have H2_ := (Option.bind_some _ _).symm.trans H; with_reducible exact H2_) | with_reducible exact H | (rw [hy256]; exact H) | exact H
   have Ny256 := Aside0.mk hy256
   clear hy256
   replace H := Option.bind_eq_some_iff.mp H
   obtain ⟨t259, A410, H⟩ := H
   replace H : ((haulierref36_with.f k t249 a1_3 t259).bind fun t262 => (some (t262, true))) = some (r1, r2) := H
   have A41 := Aside0.mk A410
   clear A410
   replace H := Option.bind_eq_some_iff.mp H
   obtain ⟨t262, A420, H⟩ := H
   replace H : (some (t262, true)) = some (r1, r2) := H
   have A42 := Aside0.mk A420
   clear A420
   simp only [Option.some.injEq, Prod.mk.injEq] at H
   obtain ⟨rfl, rfl⟩ := H
   go_enter Try.func34, Try.ntmps34
   try go_wp2_with (first | ((with_reducible refine gate_dst (N := 3) rfl ?_); (try (refine gate_guard (by rfl) ?_; dsimp only)); refine box_event ?hg (N := 3) ?hd (cs := #[.int .i64 a1_0, .int .i64 a1_1, .int .i64 a1_2, .int .i64 a1_3, .int .i64 a1_4, .int .i64 a1_5]) (t := 24) ?hr ?_; (case hd => rfl); (case hg => rfl); (case hr => first | (go_simp; done) | (go_simp; rfl)); intro gb235 hg w43 hbox hb; have n0_ := Aside0.mk (Kd.V_below (Kd.V_elderB (by (with_reducible repeat (first | apply Kd.V_alloc | apply Kd.V_drewN | apply Kd.V_drew)); exact HO0.out) gb235 (Nat.le_of_eq hg.symm)) hb); have n1_ := Aside0.mk (below_step (by repeat (first | (with_reducible first | exact HB.out | apply below_alloc | apply pw_below_drewN | apply below_drew1) | exact HB.out)) hb); have n2_ := Aside0.mk (hbox); have n3_ := Aside0.mk ((by rw [hg]; exact (below_size (by repeat (first | (with_reducible first | exact HB.out | apply below_alloc | apply pw_below_drewN | apply below_drew1) | exact HB.out))) : w.heap.size ≤ gb235)); have n4_ := Aside0.mk ((by rw [hg]; exact (below_size (by repeat (first | (with_reducible first | exact HB.out | apply below_alloc | apply pw_below_drewN | apply below_drew1) | exact HB.out))) : w.heap.size ≤ gb235)); clear HO0; clear HB; have HO0 := n0_; have HB := n1_; have BK235 := n2_; have GW235 := n3_; have GE235 := n4_; clear n0_ n1_ n2_ n3_ n4_; clear hb hbox hg))
   have n0_ := Aside0.mk (Kd.V_drew HO0.out)
   have n1_ := Aside0.mk (blk_drew BK235.out)
   have n2_ := Aside0.mk (below_drew1 HB.out)
   clear HO0 BK235 HB
   have HO0 := n0_; have BK235 := n1_; have HB := n2_
   clear n0_ n1_ n2_
   have p236 : 0 ≤ (a1_1 : Int) := of_decide_eq_true (by first | (with_reducible assumption) | assumption)
   have q236 : a1_1 < (l0.length : Int) := of_decide_eq_true (by first | (with_reducible assumption) | assumption)
   obtain ⟨ad236, A236_1, c236_1, e236, hx236_0, hx236_1, hl236_1, hi236_1⟩ := at_T35 (Kd.V_reads' HO0.out).2.2 a1_1 p236 q236
   cases e236
   obtain ⟨ce236, hce236, hMe236, hcc236⟩ := Kd.V_get HO0.out z35 a1_1 p236 (by first | exact q236 | exact of_decide_eq_true (by first | (with_reducible assumption) | assumption) | (have e_ := (Kd.V_reads' HO0.out).1; omega))
   obtain ⟨ua236_1, uc236_1, rfl, ul236_1, ge236_1⟩ := k35_openF hMe236
   have hv236_1 := hcc236 1 _ rfl
   rw [add_field _ _ 1 (by omega)] at hv236_1
   replace hv236_1 := Option.some.inj (hv236_1.symm.trans hx236_1)
   injection hv236_1 with hva_ hvn_ hvc_
   rw [hva_] at ge236_1
   rw [hvc_] at ul236_1
   have HL236_1 := Aside0.mk (show Kd.V (Kd.int .i64) 3 _ w.heap.size _ _ ((rd_T35 l0 a1_1).f1) from Kd.V_mk ul236_1 ge236_1)
   clear hva_ hvn_ hvc_ ge236_1 ul236_1 hcc236 hce236
   have HR236_1 := Aside0.mk hi236_1
   have HC236_1 := Aside0.mk hl236_1
   clear hi236_1 hl236_1
   replace p236 := eq_true p236
   replace q236 := eq_true q236
   have p237 : 0 ≤ (a1_3 : Int) := of_decide_eq_true (by first | (with_reducible assumption) | assumption)
   have q237 : a1_3 < (l0.length : Int) := of_decide_eq_true (by first | (with_reducible assumption) | assumption)
   obtain ⟨ad237, A237_1, c237_1, e237, hx237_0, hx237_1, hl237_1, hi237_1⟩ := at_T35 (Kd.V_reads' HO0.out).2.2 a1_3 p237 q237
   obtain rfl : ad236 = ad237 := (by injection e237)
   obtain ⟨ce237, hce237, hMe237, hcc237⟩ := Kd.V_get HO0.out z35 a1_3 p237 (by first | exact q237 | exact of_decide_eq_true (by first | (with_reducible assumption) | assumption) | (have e_ := (Kd.V_reads' HO0.out).1; omega))
   obtain ⟨ua237_1, uc237_1, rfl, ul237_1, ge237_1⟩ := k35_openF hMe237
   have hv237_1 := hcc237 1 _ rfl
   rw [add_field _ _ 1 (by omega)] at hv237_1
   replace hv237_1 := Option.some.inj (hv237_1.symm.trans hx237_1)
   injection hv237_1 with hva_ hvn_ hvc_
   rw [hva_] at ge237_1
   rw [hvc_] at ul237_1
   have HL237_1 := Aside0.mk (show Kd.V (Kd.int .i64) 3 _ w.heap.size _ _ ((rd_T35 l0 a1_3).f1) from Kd.V_mk ul237_1 ge237_1)
   clear hva_ hvn_ hvc_ ge237_1 ul237_1 hcc237 hce237
   have HR237_1 := Aside0.mk hi237_1
   have HC237_1 := Aside0.mk hl237_1
   clear hi237_1 hl237_1
   replace p237 := eq_true p237
   replace q237 := eq_true q237
   refine start_ (n := 14) (S := fun w' => w'.cell? ⟨gb235, 0, none⟩ = some (.int .i64 a1_0) ∧ w'.cell? ⟨gb235, 1, none⟩ = some (.int .i64 a1_1) ∧ w'.cell? ⟨gb235, 2, none⟩ = some (.int .i64 a1_2) ∧ w'.cell? ⟨gb235, 3, none⟩ = some (.int .i64 a1_3) ∧ w'.cell? ⟨gb235, 4, none⟩ = some (.int .i64 a1_4) ∧ w'.cell? ⟨gb235, 5, none⟩ = some (.int .i64 a1_5) ∧ w'.cell? (ad236.add ((a1_1).toNat * 2)) = some (.int .i64 ((rd_T35 l0 a1_1).f0)) ∧ w'.cell? ⟨(ad236.add ((a1_1).toNat * 2)).block, (ad236.add ((a1_1).toNat * 2)).off + 1, none⟩ = some (.slice A236_1 ((rd_T35 l0 a1_1).f1).length c236_1) ∧ w'.cell? (ad236.add ((a1_3).toNat * 2)) = some (.int .i64 ((rd_T35 l0 a1_3).f0)) ∧ w'.cell? ⟨(ad236.add ((a1_3).toNat * 2)).block, (ad236.add ((a1_3).toNat * 2)).off + 1, none⟩ = some (.slice A237_1 ((rd_T35 l0 a1_3).f1).length c237_1)) (ds := []) #[false, false, false, false, false, false, false, false, false, false, false, false, false, false] (by kernel_rfl) rfl rfl ⟨(blk_cell BK235.out 0).trans rfl, (blk_cell BK235.out 1).trans rfl, (blk_cell BK235.out 2).trans rfl, (blk_cell BK235.out 3).trans rfl, (blk_cell BK235.out 4).trans rfl, (blk_cell BK235.out 5).trans rfl, hx236_0, hx236_1, hx237_0, hx237_1⟩ (fun hHeld => ?_); refine with_tabW haulierref36_exchange.tab1 haulierref36_exchange.bits1 (fun HT_ HW_ => ?_)
   generalize w43.drew = w44 at HO0 BK235 HB HL236_1 HL237_1 HR236_1 HR237_1 hx236_0 hx236_1 hx237_0 hx237_1 hHeld ⊢
   refine pure_ (i := 0) (N := some 11) (v := ?_) (a' := ?_) #[true, false, false, false, false, false, false, false, false, false, false, false, false, false] rfl rfl (any_of HT_.out (by kernel_rfl)) (fun _ _ _ h => h) (Or.inl ⟨by rfl, ?_⟩) ?_ ?_
   rotate_left
   ·intro w'
    go_simp
    with_reducible rfl
   rotate_left
   ·simp only [Act.put, List.setIfInBounds_toArray, List.set_cons_zero, List.set_cons_succ, i64_w, i32_w]
    rfl
   refine pure_ (i := 1) (N := some 12) (v := ?_) (a' := ?_) #[true, true, false, false, false, false, false, false, false, false, false, false, false, false] rfl rfl (any_of HT_.out (by kernel_rfl)) (fun _ _ _ h => h) (Or.inl ⟨by rfl, ?_⟩) ?_ ?_
   rotate_left
   ·intro w'
    go_simp
    with_reducible rfl
   rotate_left
   ·simp only [Act.put, List.setIfInBounds_toArray, List.set_cons_zero, List.set_cons_succ, i64_w, i32_w]
    rfl
   refine pure_ (i := 6) (N := some 17) (v := ?_) (a' := ?_) #[true, true, false, false, false, false, true, false, false, false, false, false, false, false] rfl rfl (any_of HT_.out (by kernel_rfl)) (fun _ _ _ h => h) (Or.inl ⟨by rfl, ?_⟩) ?_ ?_
   rotate_left
   ·intro w'
    go_simp
    with_reducible rfl
   rotate_left
   ·simp only [Act.put, List.setIfInBounds_toArray, List.set_cons_zero, List.set_cons_succ, i64_w, i32_w]
    rfl
   refine pure_ (i := 7) (N := some 18) (v := ?_) (a' := ?_) #[true, true, false, false, false, false, true, true, false, false, false, false, false, false] rfl rfl (any_of HT_.out (by kernel_rfl)) (fun _ _ _ h => h) (Or.inl ⟨by rfl, ?_⟩) ?_ ?_
   rotate_left
   ·intro w'
    go_simp
    with_reducible rfl
   rotate_left
   ·simp only [Act.put, List.setIfInBounds_toArray, List.set_cons_zero, List.set_cons_succ, i64_w, i32_w]
    rfl
   refine take_ (i := 2) (N := some 13) (v := ?_) (a' := ?_) #[true, true, true, false, false, false, true, true, false, false, false, false, false, false] rfl rfl (take_ofW HT_.out HW_.out (by kernel_rfl)) (fun _ _ _ h => h) (Or.inl ⟨by rfl, ?_⟩) hHeld ?_ ?_
   rotate_left
   ·rintro w' ⟨s0, s1, s2, s3, s4, s5, s6, s7, s8, s9⟩
    go_simp
    with_reducible rfl
   rotate_left
   ·simp only [Act.put, List.setIfInBounds_toArray, List.set_cons_zero, List.set_cons_succ, i64_w, i32_w]
    rfl
   refine pure_ (i := 3) (N := some 14) (v := ?_) (a' := ?_) #[true, true, true, true, false, false, true, true, false, false, false, false, false, false] rfl rfl (any_of HT_.out (by kernel_rfl)) (fun _ _ _ h => h) (Or.inl ⟨by rfl, ?_⟩) ?_ ?_
   rotate_left
   ·intro w'
    go_simp
    with_reducible rfl
   rotate_left
   ·simp only [Act.put, List.setIfInBounds_toArray, List.set_cons_zero, List.set_cons_succ, i64_w, i32_w]
    rfl
   refine pure_ (i := 4) (N := some 15) (v := ?_) (a' := ?_) #[true, true, true, true, true, false, true, true, false, false, false, false, false, false] rfl rfl (any_of HT_.out (by kernel_rfl)) (fun _ _ _ h => h) (Or.inl ⟨by rfl, ?_⟩) ?_ ?_
   rotate_left
   ·intro w'
    go_simp
    with_reducible rfl
   rotate_left
   ·simp only [Act.put, List.setIfInBounds_toArray, List.set_cons_zero, List.set_cons_succ, i64_w, i32_w]
    rfl
   refine take_ (i := 5) (N := some 16) (v := ?_) (a' := ?_) #[true, true, true, true, true, true, true, true, false, false, false, false, false, false] rfl rfl (take_ofW HT_.out HW_.out (by kernel_rfl)) (fun _ _ _ h => h) (Or.inl ⟨by rfl, ?_⟩) hHeld ?_ ?_
   rotate_left
   ·rintro w' ⟨s0, s1, s2, s3, s4, s5, s6, s7, s8, s9⟩
    go_simp
    with_reducible rfl
   rotate_left
   ·simp only [Act.put, List.setIfInBounds_toArray, List.set_cons_zero, List.set_cons_succ, i64_w, i32_w]
    rfl
   refine pure_ (i := 12) (N := some 6) (v := ?_) (a' := ?_) #[true, true, true, true, true, true, true, true, false, false, false, false, true, false] rfl rfl (any_of HT_.out (by kernel_rfl)) (fun _ _ _ h => h) (Or.inl ⟨by rfl, ?_⟩) ?_ ?_
   rotate_left
   ·intro w'
    go_simp
    with_reducible rfl
   rotate_left
   ·simp only [Act.put, List.setIfInBounds_toArray, List.set_cons_zero, List.set_cons_succ, i64_w, i32_w]
    rfl
   refine take_ (i := 8) (N := some 19) (v := ?_) (a' := ?_) #[true, true, true, true, true, true, true, true, true, false, false, false, true, false] rfl rfl (take_ofW HT_.out HW_.out (by kernel_rfl)) (fun _ _ _ h => h) (Or.inl ⟨by rfl, ?_⟩) hHeld ?_ ?_
   rotate_left
   ·rintro w' ⟨s0, s1, s2, s3, s4, s5, s6, s7, s8, s9⟩
    go_simp
    with_reducible rfl
   rotate_left
   ·simp only [Act.put, List.setIfInBounds_toArray, List.set_cons_zero, List.set_cons_succ, i64_w, i32_w]
    rfl
   refine pure_ (i := 9) (N := some 20) (v := ?_) (a' := ?_) #[true, true, true, true, true, true, true, true, true, true, false, false, true, false] rfl rfl (any_of HT_.out (by kernel_rfl)) (fun _ _ _ h => h) (Or.inl ⟨by rfl, ?_⟩) ?_ ?_
   rotate_left
   ·intro w'
    go_simp
    with_reducible rfl
   rotate_left
   ·simp only [Act.put, List.setIfInBounds_toArray, List.set_cons_zero, List.set_cons_succ, i64_w, i32_w]
    rfl
   refine pure_ (i := 10) (N := some 21) (v := ?_) (a' := ?_) #[true, true, true, true, true, true, true, true, true, true, true, false, true, false] rfl rfl (any_of HT_.out (by kernel_rfl)) (fun _ _ _ h => h) (Or.inl ⟨by rfl, ?_⟩) ?_ ?_
   rotate_left
   ·intro w'
    go_simp
    with_reducible rfl
   rotate_left
   ·simp only [Act.put, List.setIfInBounds_toArray, List.set_cons_zero, List.set_cons_succ, i64_w, i32_w]
    rfl
   refine take_ (i := 11) (N := some 22) (v := ?_) (a' := ?_) #[true, true, true, true, true, true, true, true, true, true, true, true, true, false] rfl rfl (take_ofW HT_.out HW_.out (by kernel_rfl)) (fun _ _ _ h => h) (Or.inl ⟨by rfl, ?_⟩) hHeld ?_ ?_
   rotate_left
   ·rintro w' ⟨s0, s1, s2, s3, s4, s5, s6, s7, s8, s9⟩
    go_simp
    with_reducible rfl
   rotate_left
   ·simp only [Act.put, List.setIfInBounds_toArray, List.set_cons_zero, List.set_cons_succ, i64_w, i32_w]
    rfl
   refine pure_ (i := 13) (N := some 7) (v := ?_) (a' := ?_) #[true, true, true, true, true, true, true, true, true, true, true, true, true, true] rfl rfl (any_of HT_.out (by kernel_rfl)) (fun _ _ _ h => h) (Or.inl ⟨by rfl, ?_⟩) ?_ ?_
   rotate_left
   ·intro w'
    go_simp
    with_reducible rfl
   rotate_left
   ·simp only [Act.put, List.setIfInBounds_toArray, List.set_cons_zero, List.set_cons_succ, i64_w, i32_w]
    rfl
   refine done_ (done_of HT_.out (by kernel_rfl)) ?_
   have hcz45_0 : w44.cell? ⟨gb235, 0, none⟩ = some (.int .i64 a1_0) := (blk_cell BK235.out 0).trans rfl
   have hcz45_1 : w44.cell? ⟨gb235, 1, none⟩ = some (.int .i64 a1_1) := (blk_cell BK235.out 1).trans rfl
   have hcz45_2 : w44.cell? ⟨gb235, 2, none⟩ = some (.int .i64 a1_2) := (blk_cell BK235.out 2).trans rfl
   have hcz45_3 : w44.cell? ⟨gb235, 3, none⟩ = some (.int .i64 a1_3) := (blk_cell BK235.out 3).trans rfl
   have hcz45_4 : w44.cell? ⟨gb235, 4, none⟩ = some (.int .i64 a1_4) := (blk_cell BK235.out 4).trans rfl
   have hcz45_5 : w44.cell? ⟨gb235, 5, none⟩ = some (.int .i64 a1_5) := (blk_cell BK235.out 5).trans rfl
   have hfz45_0 := blk_frozen BK235.out 0
   have hfz45_1 := blk_frozen BK235.out 1
   have hfz45_2 := blk_frozen BK235.out 2
   have hfz45_3 := blk_frozen BK235.out 3
   have hfz45_4 := blk_frozen BK235.out 4
   have hfz45_5 := blk_frozen BK235.out 5
   try go_wp2
   have n0_ := Aside0.mk (Kd.V_drew HO0.out)
   have n1_ := Aside0.mk (Kd.V_drew HL236_1.out)
   have n2_ := Aside0.mk (Kd.V_drew HL237_1.out)
   have n3_ := Aside0.mk (blk_drew BK235.out)
   have n4_ := Aside0.mk (Kd.C_drew HR236_1.out)
   have n5_ := Aside0.mk (Kd.C_drew HR237_1.out)
   have n6_ := Aside0.mk (below_drew1 HB.out)
   clear HO0 HL236_1 HL237_1 BK235 HR236_1 HR237_1 HB
   have HO0 := n0_; have HL236_1 := n1_; have HL237_1 := n2_; have BK235 := n3_; have HR236_1 := n4_; have HR237_1 := n5_; have HB := n6_
   clear n0_ n1_ n2_ n3_ n4_ n5_ n6_
   have p238 : 0 ≤ (a1_2 : Int) := of_decide_eq_true (by first | (with_reducible assumption) | assumption)
   have q238 : a1_2 < (((rd_T35 l0 a1_1).f1).length : Int) := of_decide_eq_true (by first | (with_reducible assumption) | assumption)
   obtain ⟨ad238, e238, hx238_0⟩ := Kd.at_int (by repeat (first | (with_reducible exact HR236_1.out) | (with_reducible refine Kd.C_alloc ?_ _) | (with_reducible refine Kd.C_drewN ?_ _) | (with_reducible refine Kd.C_drew ?_) | exact HR236_1.out | exact (Kd.V_reads' HL236_1.out).2.2)) a1_2 p238 q238
   cases e238
   replace p238 := eq_true p238
   replace q238 := eq_true q238
   have p239 : 0 ≤ (a1_4 : Int) := of_decide_eq_true (by first | (with_reducible assumption) | assumption)
   have q239 : a1_4 < (((rd_T35 l0 a1_3).f1).length : Int) := of_decide_eq_true (by first | (with_reducible assumption) | assumption)
   obtain ⟨ad239, e239, hx239_0⟩ := Kd.at_int (by repeat (first | (with_reducible exact HR237_1.out) | (with_reducible refine Kd.C_alloc ?_ _) | (with_reducible refine Kd.C_drewN ?_ _) | (with_reducible refine Kd.C_drew ?_) | exact HR237_1.out | exact (Kd.V_reads' HL237_1.out).2.2)) a1_4 p239 q239
   cases e239
   replace p239 := eq_true p239
   replace q239 := eq_true q239
   refine start_ (n := 12) (S := fun w' => w'.cell? ⟨gb235, 0, none⟩ = some (.int .i64 a1_0) ∧ w'.cell? ⟨gb235, 1, none⟩ = some (.int .i64 a1_1) ∧ w'.cell? ⟨gb235, 2, none⟩ = some (.int .i64 a1_2) ∧ w'.cell? ⟨gb235, 3, none⟩ = some (.int .i64 a1_3) ∧ w'.cell? ⟨gb235, 4, none⟩ = some (.int .i64 a1_4) ∧ w'.cell? ⟨gb235, 5, none⟩ = some (.int .i64 a1_5) ∧ w'.cell? (ad238.add (a1_2).toNat) = some (.int .i64 (rd ((rd_T35 l0 a1_1).f1) a1_2)) ∧ w'.cell? (ad239.add (a1_4).toNat) = some (.int .i64 (rd ((rd_T35 l0 a1_3).f1) a1_4))) (ds := []) #[false, false, false, false, false, false, false, false, false, false, false, false] (by kernel_rfl) rfl rfl ⟨(blk_cell BK235.out 0).trans rfl, (blk_cell BK235.out 1).trans rfl, (blk_cell BK235.out 2).trans rfl, (blk_cell BK235.out 3).trans rfl, (blk_cell BK235.out 4).trans rfl, (blk_cell BK235.out 5).trans rfl, hx238_0, hx239_0⟩ (fun hHeld => ?_); refine with_tabW haulierref36_exchange.tab4 haulierref36_exchange.bits4 (fun HT_ HW_ => ?_)
   generalize w44.drew = w46 at HO0 HL236_1 HL237_1 BK235 HR236_1 HR237_1 HB hx238_0 hx239_0 hHeld ⊢
   refine pure_ (i := 0) (N := some 66) (v := ?_) (a' := ?_) #[true, false, false, false, false, false, false, false, false, false, false, false] rfl rfl (any_of HT_.out (by kernel_rfl)) (fun _ _ _ h => h) (Or.inl ⟨by rfl, ?_⟩) ?_ ?_
   rotate_left
   ·intro w'
    go_simp
    with_reducible rfl
   rotate_left
   ·simp only [Act.put, List.setIfInBounds_toArray, List.set_cons_zero, List.set_cons_succ, i64_w, i32_w]
    rfl
   refine pure_ (i := 1) (N := some 67) (v := ?_) (a' := ?_) #[true, true, false, false, false, false, false, false, false, false, false, false] rfl rfl (any_of HT_.out (by kernel_rfl)) (fun _ _ _ h => h) (Or.inl ⟨by rfl, ?_⟩) ?_ ?_
   rotate_left
   ·intro w'
    go_simp
    with_reducible rfl
   rotate_left
   ·simp only [Act.put, List.setIfInBounds_toArray, List.set_cons_zero, List.set_cons_succ, i64_w, i32_w]
    rfl
   refine pure_ (i := 5) (N := some 71) (v := ?_) (a' := ?_) #[true, true, false, false, false, true, false, false, false, false, false, false] rfl rfl (any_of HT_.out (by kernel_rfl)) (fun _ _ _ h => h) (Or.inl ⟨by rfl, ?_⟩) ?_ ?_
   rotate_left
   ·intro w'
    go_simp
    with_reducible rfl
   rotate_left
   ·simp only [Act.put, List.setIfInBounds_toArray, List.set_cons_zero, List.set_cons_succ, i64_w, i32_w]
    rfl
   refine pure_ (i := 6) (N := some 72) (v := ?_) (a' := ?_) #[true, true, false, false, false, true, true, false, false, false, false, false] rfl rfl (any_of HT_.out (by kernel_rfl)) (fun _ _ _ h => h) (Or.inl ⟨by rfl, ?_⟩) ?_ ?_
   rotate_left
   ·intro w'
    go_simp
    with_reducible rfl
   rotate_left
   ·simp only [Act.put, List.setIfInBounds_toArray, List.set_cons_zero, List.set_cons_succ, i64_w, i32_w]
    rfl
   refine take_ (i := 2) (N := some 68) (v := ?_) (a' := ?_) #[true, true, true, false, false, true, true, false, false, false, false, false] rfl rfl (take_ofW HT_.out HW_.out (by kernel_rfl)) (fun _ _ _ h => h) (Or.inl ⟨by rfl, ?_⟩) hHeld ?_ ?_
   rotate_left
   ·rintro w' ⟨s0, s1, s2, s3, s4, s5, s6, s7⟩
    go_simp
    with_reducible rfl
   rotate_left
   ·simp only [Act.put, List.setIfInBounds_toArray, List.set_cons_zero, List.set_cons_succ, i64_w, i32_w]
    rfl
   refine pure_ (i := 3) (N := some 69) (v := ?_) (a' := ?_) #[true, true, true, true, false, true, true, false, false, false, false, false] rfl rfl (any_of HT_.out (by kernel_rfl)) (fun _ _ _ h => h) (Or.inl ⟨by rfl, ?_⟩) ?_ ?_
   rotate_left
   ·intro w'
    go_simp
    with_reducible rfl
   rotate_left
   ·simp only [Act.put, List.setIfInBounds_toArray, List.set_cons_zero, List.set_cons_succ, i64_w, i32_w]
    rfl
   refine take_ (i := 4) (N := some 70) (v := ?_) (a' := ?_) #[true, true, true, true, true, true, true, false, false, false, false, false] rfl rfl (take_ofW HT_.out HW_.out (by kernel_rfl)) (fun _ _ _ h => h) (Or.inl ⟨by rfl, ?_⟩) hHeld ?_ ?_
   rotate_left
   ·rintro w' ⟨s0, s1, s2, s3, s4, s5, s6, s7⟩
    go_simp
    with_reducible rfl
   rotate_left
   ·simp only [Act.put, List.setIfInBounds_toArray, List.set_cons_zero, List.set_cons_succ, i64_w, i32_w]
    rfl
   refine pure_ (i := 10) (N := some 8) (v := ?_) (a' := ?_) #[true, true, true, true, true, true, true, false, false, false, true, false] rfl rfl (any_of HT_.out (by kernel_rfl)) (fun _ _ _ h => h) (Or.inl ⟨by rfl, ?_⟩) ?_ ?_
   rotate_left
   ·intro w'
    go_simp
    with_reducible rfl
   rotate_left
   ·simp only [Act.put, List.setIfInBounds_toArray, List.set_cons_zero, List.set_cons_succ, i64_w, i32_w]
    rfl
   refine take_ (i := 7) (N := some 73) (v := ?_) (a' := ?_) #[true, true, true, true, true, true, true, true, false, false, true, false] rfl rfl (take_ofW HT_.out HW_.out (by kernel_rfl)) (fun _ _ _ h => h) (Or.inl ⟨by rfl, ?_⟩) hHeld ?_ ?_
   rotate_left
   ·rintro w' ⟨s0, s1, s2, s3, s4, s5, s6, s7⟩
    go_simp
    with_reducible rfl
   rotate_left
   ·simp only [Act.put, List.setIfInBounds_toArray, List.set_cons_zero, List.set_cons_succ, i64_w, i32_w]
    rfl
   refine pure_ (i := 8) (N := some 74) (v := ?_) (a' := ?_) #[true, true, true, true, true, true, true, true, true, false, true, false] rfl rfl (any_of HT_.out (by kernel_rfl)) (fun _ _ _ h => h) (Or.inl ⟨by rfl, ?_⟩) ?_ ?_
   rotate_left
   ·intro w'
    go_simp
    with_reducible rfl
   rotate_left
   ·simp only [Act.put, List.setIfInBounds_toArray, List.set_cons_zero, List.set_cons_succ, i64_w, i32_w]
    rfl
   refine take_ (i := 9) (N := some 75) (v := ?_) (a' := ?_) #[true, true, true, true, true, true, true, true, true, true, true, false] rfl rfl (take_ofW HT_.out HW_.out (by kernel_rfl)) (fun _ _ _ h => h) (Or.inl ⟨by rfl, ?_⟩) hHeld ?_ ?_
   rotate_left
   ·rintro w' ⟨s0, s1, s2, s3, s4, s5, s6, s7⟩
    go_simp
    with_reducible rfl
   rotate_left
   ·simp only [Act.put, List.setIfInBounds_toArray, List.set_cons_zero, List.set_cons_succ, i64_w, i32_w]
    rfl
   refine pure_ (i := 11) (N := some 9) (v := ?_) (a' := ?_) #[true, true, true, true, true, true, true, true, true, true, true, true] rfl rfl (any_of HT_.out (by kernel_rfl)) (fun _ _ _ h => h) (Or.inl ⟨by rfl, ?_⟩) ?_ ?_
   rotate_left
   ·intro w'
    go_simp
    with_reducible rfl
   rotate_left
   ·simp only [Act.put, List.setIfInBounds_toArray, List.set_cons_zero, List.set_cons_succ, i64_w, i32_w]
    rfl
   refine done_ (done_of HT_.out (by kernel_rfl)) ?_
   try go_wp2
   have n0_ := Aside0.mk (Kd.V_drew HO0.out)
   have n1_ := Aside0.mk (Kd.V_drew HL236_1.out)
   have n2_ := Aside0.mk (Kd.V_drew HL237_1.out)
   have n3_ := Aside0.mk (blk_drew BK235.out)
   have n4_ := Aside0.mk (Kd.C_drew HR236_1.out)
   have n5_ := Aside0.mk (Kd.C_drew HR237_1.out)
   have n6_ := Aside0.mk (below_drew1 HB.out)
   clear HO0 HL236_1 HL237_1 BK235 HR236_1 HR237_1 HB
   have HO0 := n0_; have HL236_1 := n1_; have HL237_1 := n2_; have BK235 := n3_; have HR236_1 := n4_; have HR237_1 := n5_; have HB := n6_
   clear n0_ n1_ n2_ n3_ n4_ n5_ n6_
   refine start_ (n := 14) (S := fun w' => True) (ds := []) #[false, false, false, false, false, false, false, false, false, false, false, false, false, false] (by kernel_rfl) rfl rfl trivial (fun hHeld => ?_); refine with_tabW haulierref36_exchange.tab5 haulierref36_exchange.bits5 (fun HT_ HW_ => ?_)
   generalize w46.drew = w47 at HO0 HL236_1 HL237_1 BK235 HR236_1 HR237_1 HB hHeld ⊢
   refine pure_ (i := 0) (N := some 76) (v := ?_) (a' := ?_) #[true, false, false, false, false, false, false, false, false, false, false, false, false, false] rfl rfl (any_of HT_.out (by kernel_rfl)) (fun _ _ _ h => h) (Or.inl ⟨by rfl, ?_⟩) ?_ ?_
   rotate_left
   ·intro w'
    go_simp
    with_reducible rfl
   rotate_left
   ·simp only [Act.put, List.setIfInBounds_toArray, List.set_cons_zero, List.set_cons_succ, i64_w, i32_w]
    rfl
   refine pure_ (i := 1) (N := some 77) (v := ?_) (a' := ?_) #[true, true, false, false, false, false, false, false, false, false, false, false, false, false] rfl rfl (any_of HT_.out (by kernel_rfl)) (fun _ _ _ h => h) (Or.inl ⟨by rfl, ?_⟩) ?_ ?_
   rotate_left
   ·intro w'
    go_simp
    with_reducible rfl
   rotate_left
   ·simp only [Act.put, List.setIfInBounds_toArray, List.set_cons_zero, List.set_cons_succ, i64_w, i32_w]
    rfl
   refine pure_ (i := 3) (N := some 79) (v := ?_) (a' := ?_) #[true, true, false, true, false, false, false, false, false, false, false, false, false, false] rfl rfl (any_of HT_.out (by kernel_rfl)) (fun _ _ _ h => h) (Or.inl ⟨by rfl, ?_⟩) ?_ ?_
   rotate_left
   ·intro w'
    go_simp
    with_reducible rfl
   rotate_left
   ·simp only [Act.put, List.setIfInBounds_toArray, List.set_cons_zero, List.set_cons_succ, i64_w, i32_w]
    rfl
   refine pure_ (i := 4) (N := some 80) (v := ?_) (a' := ?_) #[true, true, false, true, true, false, false, false, false, false, false, false, false, false] rfl rfl (any_of HT_.out (by kernel_rfl)) (fun _ _ _ h => h) (Or.inl ⟨by rfl, ?_⟩) ?_ ?_
   rotate_left
   ·intro w'
    go_simp
    with_reducible rfl
   rotate_left
   ·simp only [Act.put, List.setIfInBounds_toArray, List.set_cons_zero, List.set_cons_succ, i64_w, i32_w]
    rfl
   refine pure_ (i := 7) (N := some 83) (v := ?_) (a' := ?_) #[true, true, false, true, true, false, false, true, false, false, false, false, false, false] rfl rfl (any_of HT_.out (by kernel_rfl)) (fun _ _ _ h => h) (Or.inl ⟨by rfl, ?_⟩) ?_ ?_
   rotate_left
   ·intro w'
    go_simp
    with_reducible rfl
   rotate_left
   ·simp only [Act.put, List.setIfInBounds_toArray, List.set_cons_zero, List.set_cons_succ, i64_w, i32_w]
    rfl
   refine pure_ (i := 9) (N := some 85) (v := ?_) (a' := ?_) #[true, true, false, true, true, false, false, true, false, true, false, false, false, false] rfl rfl (any_of HT_.out (by kernel_rfl)) (fun _ _ _ h => h) (Or.inl ⟨by rfl, ?_⟩) ?_ ?_
   rotate_left
   ·intro w'
    go_simp
    with_reducible rfl
   rotate_left
   ·simp only [Act.put, List.setIfInBounds_toArray, List.set_cons_zero, List.set_cons_succ, i64_w, i32_w]
    rfl
   refine inv_at [2, 5, 6, 8, 10, 11, 12, 13] (fun a0_ b a w' => ∃ (v241 : Value) (v244 : Value) (v247 : Value) (v250 : Value) (m13_ : Value), a = putSel a0_ b [(2, 78, .int .i64 a1_1), (5, 81, .int .i64 a1_2), (6, 82, v241), (8, 84, .int .i64 a1_2), (10, 86, v244), (11, 87, v247), (12, 88, v250), (13, 10, m13_)] ∧ (Kd.V (Kd.int .i64) 3 w' w.heap.size (fun k_ => (P0_ k_ ∨ w.heap.size ≤ k_) ∧ k_ ≠ gb235) (.slice (some ad238) ((rd_T35 l0 a1_1).f1).length c236_1) ((rd_T35 l0 a1_1).f1)) ∧ (Kd.V (Kd.int .i64) 3 w' w.heap.size (fun k_ => (P0_ k_ ∨ w.heap.size ≤ k_) ∧ k_ ≠ gb235) (.slice (some ad239) ((rd_T35 l0 a1_3).f1).length c237_1) ((rd_T35 l0 a1_3).f1)) ∧ (Kd.V k35 35 w' w.heap.size (fun k_ => (P0_ k_ ∨ w.heap.size ≤ k_) ∧ k_ ≠ gb235) (.slice (some ad236) l0.length c0) l0) ∧ (w'.heap[gb235]? = some (.cells #[.int .i64 a1_0, .int .i64 a1_1, .int .i64 a1_2, .int .i64 a1_3, .int .i64 a1_4, .int .i64 a1_5] 24 (0, 0))) ∧ (Below w.heap.size w w') ∧ (b 6 = true → Kd.R (Kd.int .i64) 3 w' w.heap.size (fun k_ => (w.heap.size ≤ k_)) v241 t240) ∧ (b 10 = true → Kd.R (Kd.int .i64) 3 w' w.heap.size (fun k_ => (w.heap.size ≤ k_)) v244 y243) ∧ (b 11 = true → Kd.R (Kd.int .i64) 3 w' w.heap.size (fun k_ => (w.heap.size ≤ k_)) v247 t246) ∧ (b 12 = true → Kd.N k35 35 w' w.heap.size (fun k_ => (P0_ k_ ∨ w.heap.size ≤ k_) ∧ k_ ≠ gb235) v250 t249) ∧ (b 13 = true → (m13_ : Value) = v250)) HT_.out HW_.out (by kernel_rfl) (by kernel_rfl) ?_ ?_ ?_
   ·exact ⟨.bool false, .bool false, .bool false, .bool false, .bool false, by simp only [putSel, Bool.false_eq_true, if_false], HL236_1.out, HL237_1.out, HO0.out, BK235.out, HB.out, fun h_ => absurd h_ (by decide), fun h_ => absurd h_ (by decide), fun h_ => absurd h_ (by decide), fun h_ => absurd h_ (by decide), fun h_ => absurd h_ (by decide)⟩
   ·skip
    clear BK235 HB HL236_1 HL237_1 HO0
    refine steps_cons ?_ ?_
    ·rintro b a w' ⟨v241, v244, v247, v250, m13_, ha, Q_HL236_1, Q_HL237_1, Q_HO0, Q_BK235, Q_HB, Q_HO242, Q_HO245, Q_HO248, Q_HO251, Q_X13_⟩ hb_ hon hoff
     refine ⟨_, rfl, fun K hK => ?_⟩
     have e77 : a.tmps[77]? = some (.pointer (some ⟨gb235, 1, none⟩)) := by rw [ha]; exact (putSel_off rfl).trans rfl
     replace ha := Aside0.mk ha
     have HL236_1 := Aside0.mk Q_HL236_1
     have HL237_1 := Aside0.mk Q_HL237_1
     have HO0 := Aside0.mk Q_HO0
     have BK235 := Aside0.mk Q_BK235
     have HB := Aside0.mk Q_HB
     have hc0_ : w'.cell? ⟨gb235, 0, none⟩ = some (.int .i64 a1_0) := (blk_cell BK235.out 0).trans rfl
     have hc1_ : w'.cell? ⟨gb235, 1, none⟩ = some (.int .i64 a1_1) := (blk_cell BK235.out 1).trans rfl
     have hc2_ : w'.cell? ⟨gb235, 2, none⟩ = some (.int .i64 a1_2) := (blk_cell BK235.out 2).trans rfl
     have hc3_ : w'.cell? ⟨gb235, 3, none⟩ = some (.int .i64 a1_3) := (blk_cell BK235.out 3).trans rfl
     have hc4_ : w'.cell? ⟨gb235, 4, none⟩ = some (.int .i64 a1_4) := (blk_cell BK235.out 4).trans rfl
     have hc5_ : w'.cell? ⟨gb235, 5, none⟩ = some (.int .i64 a1_5) := (blk_cell BK235.out 5).trans rfl
     refine value_ (w1 := w') (v := .int .i64 a1_1) (by rfl) rfl ?_ ?_
     ·go_simp
      (try simp only [i64_w])
      try rfl
     refine hK.out _ _ ⟨v241, v244, v247, v250, m13_, (by rw [ha.out]; exact putSel_upk 0 hb_ rfl rfl rfl), Q_HL236_1, Q_HL237_1, Q_HO0, Q_BK235, Q_HB, Q_HO242, Q_HO245, Q_HO248, fun h0_ => absurd ((hoff 12 (by kernel_rfl)).symm.trans h0_) (by decide), fun h0_ => absurd ((hoff 13 (by kernel_rfl)).symm.trans h0_) (by decide)⟩
    refine steps_cons ?_ ?_
    ·rintro b a w' ⟨v241, v244, v247, v250, m13_, ha, Q_HL236_1, Q_HL237_1, Q_HO0, Q_BK235, Q_HB, Q_HO242, Q_HO245, Q_HO248, Q_HO251, Q_X13_⟩ hb_ hon hoff
     refine ⟨_, rfl, fun K hK => ?_⟩
     have e80 : a.tmps[80]? = some (.pointer (some ⟨gb235, 2, none⟩)) := by rw [ha]; exact (putSel_off rfl).trans rfl
     replace ha := Aside0.mk ha
     have HL236_1 := Aside0.mk Q_HL236_1
     have HL237_1 := Aside0.mk Q_HL237_1
     have HO0 := Aside0.mk Q_HO0
     have BK235 := Aside0.mk Q_BK235
     have HB := Aside0.mk Q_HB
     have hc0_ : w'.cell? ⟨gb235, 0, none⟩ = some (.int .i64 a1_0) := (blk_cell BK235.out 0).trans rfl
     have hc1_ : w'.cell? ⟨gb235, 1, none⟩ = some (.int .i64 a1_1) := (blk_cell BK235.out 1).trans rfl
     have hc2_ : w'.cell? ⟨gb235, 2, none⟩ = some (.int .i64 a1_2) := (blk_cell BK235.out 2).trans rfl
     have hc3_ : w'.cell? ⟨gb235, 3, none⟩ = some (.int .i64 a1_3) := (blk_cell BK235.out 3).trans rfl
     have hc4_ : w'.cell? ⟨gb235, 4, none⟩ = some (.int .i64 a1_4) := (blk_cell BK235.out 4).trans rfl
     have hc5_ : w'.cell? ⟨gb235, 5, none⟩ = some (.int .i64 a1_5) := (blk_cell BK235.out 5).trans rfl
     refine value_ (w1 := w') (v := .int .i64 a1_2) (by rfl) rfl ?_ ?_
     ·go_simp
      (try simp only [i64_w])
      try rfl
     refine hK.out _ _ ⟨v241, v244, v247, v250, m13_, (by rw [ha.out]; exact putSel_upk 1 hb_ rfl rfl rfl), Q_HL236_1, Q_HL237_1, Q_HO0, Q_BK235, Q_HB, fun h0_ => absurd ((hoff 6 (by kernel_rfl)).symm.trans h0_) (by decide), Q_HO245, fun h0_ => absurd ((hoff 11 (by kernel_rfl)).symm.trans h0_) (by decide), fun h0_ => absurd ((hoff 12 (by kernel_rfl)).symm.trans h0_) (by decide), fun h0_ => absurd ((hoff 13 (by kernel_rfl)).symm.trans h0_) (by decide)⟩
    refine steps_cons ?_ ?_
    ·rintro b a w' ⟨v241, v244, v247, v250, m13_, ha, Q_HL236_1, Q_HL237_1, Q_HO0, Q_BK235, Q_HB, Q_HO242, Q_HO245, Q_HO248, Q_HO251, Q_X13_⟩ hb_ hon hoff
     refine ⟨_, rfl, fun K hK => ?_⟩
     have e79 : a.tmps[79]? = some (.slice (some ad238) ((rd_T35 l0 a1_1).f1).length c236_1) := by rw [ha]; exact (putSel_off rfl).trans rfl
     have e81 : a.tmps[81]? = some (.int .i64 a1_2) := by rw [ha]; exact putSel_on (e := (5, 81, .int .i64 a1_2)) 1 rfl rfl (hon 5 (by kernel_rfl)) rfl
     replace ha := Aside0.mk ha
     have HL236_1 := Aside0.mk Q_HL236_1
     have HL237_1 := Aside0.mk Q_HL237_1
     have HO0 := Aside0.mk Q_HO0
     have BK235 := Aside0.mk Q_BK235
     have HB := Aside0.mk Q_HB
     refine goes_ Try.func44 (by kernel_rfl) rfl #[.slice (some ad238) ((rd_T35 l0 a1_1).f1).length c236_1, .int .i64 a1_2, .int .i64 1] (by rfl) rfl rfl (by first | (simp only [List.map_toArray, List.map_cons, List.map_nil, Act.eval, Array.getD_eq_getD_getElem?, Option.getD_some, e79, e81]; done) | (simp only [List.map_toArray, List.map_cons, List.map_nil, Act.eval, Array.getD_eq_getD_getElem?, Option.getD_some, e79, e81]; rfl)) ?_
     with_reducible refine (haulierref36_cut.calls k _ _ ((rd_T35 l0 a1_1).f1) a1_2 1 t240 _ ?side1 ?side2 A36.out).mono ?_
     (case side1 => repeat (first | exact (by repeat (first | (with_reducible exact HR236_1.out) | (with_reducible refine Kd.C_alloc ?_ _) | (with_reducible refine Kd.C_drewN ?_ _) | (with_reducible refine Kd.C_drew ?_) | exact HR236_1.out | exact (Kd.V_reads' HL236_1.out).2.2)) | (with_reducible refine Kd.C_alloc ?_ _) | (with_reducible refine Kd.C_drewN ?_ _) | (with_reducible refine Kd.C_drew ?_)))
     (case side2 => exact HC236_1.out)
     rintro e w48 ⟨v241, rfl, ho0, hb⟩
     refine ⟨_, rfl, ?_⟩
     have n0_ := Aside0.mk (Kd.V_elder' (by (with_reducible repeat (first | apply Kd.V_alloc | apply Kd.V_drewN | apply Kd.V_drew)); exact HO0.out) (Kd.R_base ho0) hb)
     have n1_ := Aside0.mk (Kd.V_elder' (by (with_reducible repeat (first | apply Kd.V_alloc | apply Kd.V_drewN | apply Kd.V_drew)); exact HL236_1.out) (Kd.R_base ho0) hb)
     have n2_ := Aside0.mk (Kd.V_elder' (by (with_reducible repeat (first | apply Kd.V_alloc | apply Kd.V_drewN | apply Kd.V_drew)); exact HL237_1.out) (Kd.R_base ho0) hb)
     have n3_ := Aside0.mk (Kd.R_lower (Kd.R_newM (M := fun k_ => (w.heap.size ≤ k_)) ho0 (below_size (by repeat (first | (with_reducible first | exact HB.out | apply below_alloc | apply pw_below_drewN | apply below_drew1 | refine below_set ?_ GE235.out) | exact HB.out))) (fun k_ h_ => h_)) (below_size (by repeat (first | (with_reducible first | exact HB.out | apply below_alloc | apply pw_below_drewN | apply below_drew1 | refine below_set ?_ GE235.out) | exact HB.out))))
     have n4_ := Aside0.mk (blk_below (g := gb235) (o := .cells #[.int .i64 a1_0, .int .i64 a1_1, .int .i64 a1_2, .int .i64 a1_3, .int .i64 a1_4, .int .i64 a1_5] 24 (0, 0)) (by (with_reducible repeat (first | refine blk_drewN ?_ _ | refine blk_drew ?_ | refine blk_alloc ?_ _)); exact BK235.out) hb)
     have n5_ := Aside0.mk (Kd.C_below (by repeat (first | (with_reducible exact HR236_1.out) | (with_reducible refine Kd.C_alloc ?_ _) | (with_reducible refine Kd.C_drewN ?_ _) | (with_reducible refine Kd.C_drew ?_) | exact HR236_1.out | exact (Kd.V_reads' HL236_1.out).2.2)) hb)
     have n6_ := Aside0.mk (Kd.C_below (by repeat (first | (with_reducible exact HR237_1.out) | (with_reducible refine Kd.C_alloc ?_ _) | (with_reducible refine Kd.C_drewN ?_ _) | (with_reducible refine Kd.C_drew ?_) | exact HR237_1.out | exact (Kd.V_reads' HL237_1.out).2.2)) hb)
     have n7_ := Aside0.mk (below_step (by repeat (first | (with_reducible first | exact HB.out | apply below_alloc | apply pw_below_drewN | apply below_drew1 | refine below_set ?_ GE235.out) | exact HB.out)) hb)
     have z_HO245 := fun (h0_ : b 10 = true) => (show Kd.R (Kd.int .i64) 3 w48 w.heap.size (fun k_ => (w.heap.size ≤ k_)) v244 y243 from by first | exact (Kd.R_elder' (by (with_reducible repeat (first | apply Kd.R_alloc | apply Kd.R_drewN | apply Kd.R_drew)); exact (Q_HO245 h0_)) (Kd.R_base ho0) hb) | exact Kd.R_mono (Kd.R_elder' (by (with_reducible repeat (first | apply Kd.R_alloc | apply Kd.R_drewN | apply Kd.R_drew)); exact (Q_HO245 h0_)) (Kd.R_base ho0) hb) (fun _ h_ => by first | trivial | exact h_ | exact h_.1))
     clear HO0 HL236_1 HL237_1 BK235 HR236_1 HR237_1 HB
     have HO0 := n0_; have HL236_1 := n1_; have HL237_1 := n2_; have HO242 := n3_; have BK235 := n4_; have HR236_1 := n5_; have HR237_1 := n6_; have HB := n7_
     clear n0_ n1_ n2_ n3_ n4_ n5_ n6_ n7_
     try clear hb; try clear hb2; try clear hk; try clear hi; try clear ho0
     refine hK.out _ _ ⟨v241, v244, v247, v250, m13_, (by rw [ha.out]; exact putSel_upk 2 hb_ rfl rfl rfl), (by (with_reducible repeat (first | apply Kd.V_alloc | apply Kd.V_drewN | apply Kd.V_drew)); exact Kd.V_mono HL236_1.out (fun _ hk => by first | exact hk | exact hk.1 | exact hk.1.1 | exact hk.1.1.1 | exact hk.1.1.1.1 | exact hk.1.1.1.1.1 | exact hk.1.1.1.1.1.1 | exact hk.1.1.1.1.1.1.1 | exact hk.1.1.1.1.1.1.1.1 | exact .inr hk | exact .inr hk.1 | exact .inr hk.1.1 | exact .inr hk.1.1.1)), (by (with_reducible repeat (first | apply Kd.V_alloc | apply Kd.V_drewN | apply Kd.V_drew)); exact Kd.V_mono HL237_1.out (fun _ hk => by first | exact hk | exact hk.1 | exact hk.1.1 | exact hk.1.1.1 | exact hk.1.1.1.1 | exact hk.1.1.1.1.1 | exact hk.1.1.1.1.1.1 | exact hk.1.1.1.1.1.1.1 | exact hk.1.1.1.1.1.1.1.1 | exact .inr hk | exact .inr hk.1 | exact .inr hk.1.1 | exact .inr hk.1.1.1)), (by (with_reducible repeat (first | apply Kd.V_alloc | apply Kd.V_drewN | apply Kd.V_drew)); exact Kd.V_mono HO0.out (fun _ hk => by first | exact hk | exact hk.1 | exact hk.1.1 | exact hk.1.1.1 | exact hk.1.1.1.1 | exact hk.1.1.1.1.1 | exact hk.1.1.1.1.1.1 | exact hk.1.1.1.1.1.1.1 | exact hk.1.1.1.1.1.1.1.1 | exact .inr hk | exact .inr hk.1 | exact .inr hk.1.1 | exact .inr hk.1.1.1)), (by (with_reducible repeat (first | refine blk_drewN ?_ _ | refine blk_drew ?_ | refine blk_alloc ?_ _)); exact BK235.out), (by repeat (first | (with_reducible first | exact HB.out | apply below_alloc | apply pw_below_drewN | apply below_drew1 | refine below_set ?_ GE235.out) | exact HB.out)), fun _ => (by (with_reducible repeat (first | apply Kd.R_alloc | apply Kd.R_drewN | apply Kd.R_drew)); exact Kd.R_mono HO242.out (fun _ hk => by first | exact hk | exact hk.1 | exact hk.1.1 | exact hk.1.1.1 | exact hk.1.1.1.1 | exact hk.1.1.1.1.1 | exact hk.1.1.1.1.1.1 | exact hk.1.1.1.1.1.1.1 | exact hk.1.1.1.1.1.1.1.1 | exact .inr hk | exact .inr hk.1 | exact .inr hk.1.1 | exact .inr hk.1.1.1)), z_HO245, fun h0_ => absurd ((hoff 11 (by kernel_rfl)).symm.trans h0_) (by decide), fun h0_ => absurd ((hoff 12 (by kernel_rfl)).symm.trans h0_) (by decide), fun h0_ => absurd ((hoff 13 (by kernel_rfl)).symm.trans h0_) (by decide)⟩
    refine steps_cons ?_ ?_
    ·rintro b a w' ⟨v241, v244, v247, v250, m13_, ha, Q_HL236_1, Q_HL237_1, Q_HO0, Q_BK235, Q_HB, Q_HO242, Q_HO245, Q_HO248, Q_HO251, Q_X13_⟩ hb_ hon hoff
     refine ⟨_, rfl, fun K hK => ?_⟩
     have e83 : a.tmps[83]? = some (.pointer (some ⟨gb235, 2, none⟩)) := by rw [ha]; exact (putSel_off rfl).trans rfl
     replace ha := Aside0.mk ha
     have HL236_1 := Aside0.mk Q_HL236_1
     have HL237_1 := Aside0.mk Q_HL237_1
     have HO0 := Aside0.mk Q_HO0
     have BK235 := Aside0.mk Q_BK235
     have HB := Aside0.mk Q_HB
     have hc0_ : w'.cell? ⟨gb235, 0, none⟩ = some (.int .i64 a1_0) := (blk_cell BK235.out 0).trans rfl
     have hc1_ : w'.cell? ⟨gb235, 1, none⟩ = some (.int .i64 a1_1) := (blk_cell BK235.out 1).trans rfl
     have hc2_ : w'.cell? ⟨gb235, 2, none⟩ = some (.int .i64 a1_2) := (blk_cell BK235.out 2).trans rfl
     have hc3_ : w'.cell? ⟨gb235, 3, none⟩ = some (.int .i64 a1_3) := (blk_cell BK235.out 3).trans rfl
     have hc4_ : w'.cell? ⟨gb235, 4, none⟩ = some (.int .i64 a1_4) := (blk_cell BK235.out 4).trans rfl
     have hc5_ : w'.cell? ⟨gb235, 5, none⟩ = some (.int .i64 a1_5) := (blk_cell BK235.out 5).trans rfl
     refine value_ (w1 := w') (v := .int .i64 a1_2) (by rfl) rfl ?_ ?_
     ·go_simp
      (try simp only [i64_w])
      try rfl
     refine hK.out _ _ ⟨v241, v244, v247, v250, m13_, (by rw [ha.out]; exact putSel_upk 3 hb_ rfl rfl rfl), Q_HL236_1, Q_HL237_1, Q_HO0, Q_BK235, Q_HB, Q_HO242, Q_HO245, fun h0_ => absurd ((hoff 11 (by kernel_rfl)).symm.trans h0_) (by decide), fun h0_ => absurd ((hoff 12 (by kernel_rfl)).symm.trans h0_) (by decide), fun h0_ => absurd ((hoff 13 (by kernel_rfl)).symm.trans h0_) (by decide)⟩
    refine steps_cons ?_ ?_
    ·rintro b a w' ⟨v241, v244, v247, v250, m13_, ha, Q_HL236_1, Q_HL237_1, Q_HO0, Q_BK235, Q_HB, Q_HO242, Q_HO245, Q_HO248, Q_HO251, Q_X13_⟩ hb_ hon hoff
     refine ⟨_, rfl, fun K hK => ?_⟩
     have e85 : a.tmps[85]? = some (.int .i64 (rd ((rd_T35 l0 a1_3).f1) a1_4)) := by rw [ha]; exact (putSel_off rfl).trans rfl
     replace ha := Aside0.mk ha
     have HL236_1 := Aside0.mk Q_HL236_1
     have HL237_1 := Aside0.mk Q_HL237_1
     have HO0 := Aside0.mk Q_HO0
     have BK235 := Aside0.mk Q_BK235
     have HB := Aside0.mk Q_HB
     refine Kd.R_lit_step (Kd.int .i64) _ 3 ?hg (N := 86) ?hd (xs := ([rd ((rd_T35 l0 a1_3).f1) a1_4] : List Int)) (inner := [.int .i64 (rd ((rd_T35 l0 a1_3).f1) a1_4)]) (ok := fun _ => True) (okp := fun _ => True) ?hr ?hp (fun _ hk => hk) trivial (Below.refl _ _) (Nat.le_refl _) (by simp) ?_; (case hd => rfl); (case hg => rfl); (case hr => first | (go_simp; done) | (go_simp; rfl)); (case hp => exact (Reps.one (show Kd.M (Kd.int .i64) _ _ _ (rd ((rd_T35 l0 a1_3).f1) a1_4) [.int .i64 (rd ((rd_T35 l0 a1_3).f1) a1_4)] from rfl) (Reps.none _ _)))
     intro v244 w48 ho49 hb hg_ hnew_
     clear hg_ hnew_
     (first | rw [← Ny243.out] at ho49 | (simp only [Int.reduceToNat] at ho49; rw [← Ny243.out] at ho49))
     have n0_ := Aside0.mk (Kd.V_elder' (by (with_reducible repeat (first | apply Kd.V_alloc | apply Kd.V_drewN | apply Kd.V_drew)); exact HO0.out) (Kd.R_base ho49) hb)
     have n1_ := Aside0.mk (Kd.V_elder' (by (with_reducible repeat (first | apply Kd.V_alloc | apply Kd.V_drewN | apply Kd.V_drew)); exact HL236_1.out) (Kd.R_base ho49) hb)
     have n2_ := Aside0.mk (Kd.V_elder' (by (with_reducible repeat (first | apply Kd.V_alloc | apply Kd.V_drewN | apply Kd.V_drew)); exact HL237_1.out) (Kd.R_base ho49) hb)
     have n3_ := Aside0.mk (Kd.R_lower (Kd.R_newM (M := fun k_ => (w.heap.size ≤ k_)) ho49 (below_size (by repeat (first | (with_reducible first | exact HB.out | apply below_alloc | apply pw_below_drewN | apply below_drew1 | refine below_set ?_ GE235.out) | exact HB.out))) (fun k_ h_ => h_)) (below_size (by repeat (first | (with_reducible first | exact HB.out | apply below_alloc | apply pw_below_drewN | apply below_drew1 | refine below_set ?_ GE235.out) | exact HB.out))))
     have n4_ := Aside0.mk (blk_below (g := gb235) (o := .cells #[.int .i64 a1_0, .int .i64 a1_1, .int .i64 a1_2, .int .i64 a1_3, .int .i64 a1_4, .int .i64 a1_5] 24 (0, 0)) (by (with_reducible repeat (first | refine blk_drewN ?_ _ | refine blk_drew ?_ | refine blk_alloc ?_ _)); exact BK235.out) hb)
     have n5_ := Aside0.mk (Kd.C_below (by repeat (first | (with_reducible exact HR236_1.out) | (with_reducible refine Kd.C_alloc ?_ _) | (with_reducible refine Kd.C_drewN ?_ _) | (with_reducible refine Kd.C_drew ?_) | exact HR236_1.out | exact (Kd.V_reads' HL236_1.out).2.2)) hb)
     have n6_ := Aside0.mk (Kd.C_below (by repeat (first | (with_reducible exact HR237_1.out) | (with_reducible refine Kd.C_alloc ?_ _) | (with_reducible refine Kd.C_drewN ?_ _) | (with_reducible refine Kd.C_drew ?_) | exact HR237_1.out | exact (Kd.V_reads' HL237_1.out).2.2)) hb)
     have n7_ := Aside0.mk (below_step (by repeat (first | (with_reducible first | exact HB.out | apply below_alloc | apply pw_below_drewN | apply below_drew1 | refine below_set ?_ GE235.out) | exact HB.out)) hb)
     have z_HO242 := fun (h0_ : b 6 = true) => (show Kd.R (Kd.int .i64) 3 w48 w.heap.size (fun k_ => (w.heap.size ≤ k_)) v241 t240 from by first | exact (Kd.R_elder' (by (with_reducible repeat (first | apply Kd.R_alloc | apply Kd.R_drewN | apply Kd.R_drew)); exact (Q_HO242 h0_)) (Kd.R_base ho49) hb) | exact Kd.R_mono (Kd.R_elder' (by (with_reducible repeat (first | apply Kd.R_alloc | apply Kd.R_drewN | apply Kd.R_drew)); exact (Q_HO242 h0_)) (Kd.R_base ho49) hb) (fun _ h_ => by first | trivial | exact h_ | exact h_.1))
     clear HO0 HL236_1 HL237_1 BK235 HR236_1 HR237_1 HB
     have HO0 := n0_; have HL236_1 := n1_; have HL237_1 := n2_; have HO245 := n3_; have BK235 := n4_; have HR236_1 := n5_; have HR237_1 := n6_; have HB := n7_
     clear n0_ n1_ n2_ n3_ n4_ n5_ n6_ n7_ hb ho49
     refine hK.out _ _ ⟨v241, v244, v247, v250, m13_, (by rw [ha.out]; exact putSel_upk 4 hb_ rfl rfl rfl), (by (with_reducible repeat (first | apply Kd.V_alloc | apply Kd.V_drewN | apply Kd.V_drew)); exact Kd.V_mono HL236_1.out (fun _ hk => by first | exact hk | exact hk.1 | exact hk.1.1 | exact hk.1.1.1 | exact hk.1.1.1.1 | exact hk.1.1.1.1.1 | exact hk.1.1.1.1.1.1 | exact hk.1.1.1.1.1.1.1 | exact hk.1.1.1.1.1.1.1.1 | exact .inr hk | exact .inr hk.1 | exact .inr hk.1.1 | exact .inr hk.1.1.1)), (by (with_reducible repeat (first | apply Kd.V_alloc | apply Kd.V_drewN | apply Kd.V_drew)); exact Kd.V_mono HL237_1.out (fun _ hk => by first | exact hk | exact hk.1 | exact hk.1.1 | exact hk.1.1.1 | exact hk.1.1.1.1 | exact hk.1.1.1.1.1 | exact hk.1.1.1.1.1.1 | exact hk.1.1.1.1.1.1.1 | exact hk.1.1.1.1.1.1.1.1 | exact .inr hk | exact .inr hk.1 | exact .inr hk.1.1 | exact .inr hk.1.1.1)), (by (with_reducible repeat (first | apply Kd.V_alloc | apply Kd.V_drewN | apply Kd.V_drew)); exact Kd.V_mono HO0.out (fun _ hk => by first | exact hk | exact hk.1 | exact hk.1.1 | exact hk.1.1.1 | exact hk.1.1.1.1 | exact hk.1.1.1.1.1 | exact hk.1.1.1.1.1.1 | exact hk.1.1.1.1.1.1.1 | exact hk.1.1.1.1.1.1.1.1 | exact .inr hk | exact .inr hk.1 | exact .inr hk.1.1 | exact .inr hk.1.1.1)), (by (with_reducible repeat (first | refine blk_drewN ?_ _ | refine blk_drew ?_ | refine blk_alloc ?_ _)); exact BK235.out), (by repeat (first | (with_reducible first | exact HB.out | apply below_alloc | apply pw_below_drewN | apply below_drew1 | refine below_set ?_ GE235.out) | exact HB.out)), z_HO242, fun _ => (by (with_reducible repeat (first | apply Kd.R_alloc | apply Kd.R_drewN | apply Kd.R_drew)); exact Kd.R_mono HO245.out (fun _ hk => by first | exact hk | exact hk.1 | exact hk.1.1 | exact hk.1.1.1 | exact hk.1.1.1.1 | exact hk.1.1.1.1.1 | exact hk.1.1.1.1.1.1 | exact hk.1.1.1.1.1.1.1 | exact hk.1.1.1.1.1.1.1.1 | exact .inr hk | exact .inr hk.1 | exact .inr hk.1.1 | exact .inr hk.1.1.1)), fun h0_ => absurd ((hoff 11 (by kernel_rfl)).symm.trans h0_) (by decide), fun h0_ => absurd ((hoff 12 (by kernel_rfl)).symm.trans h0_) (by decide), fun h0_ => absurd ((hoff 13 (by kernel_rfl)).symm.trans h0_) (by decide)⟩
    refine steps_cons ?_ ?_
    ·rintro b a w' ⟨v241, v244, v247, v250, m13_, ha, Q_HL236_1, Q_HL237_1, Q_HO0, Q_BK235, Q_HB, Q_HO242, Q_HO245, Q_HO248, Q_HO251, Q_X13_⟩ hb_ hon hoff
     refine ⟨_, rfl, fun K hK => ?_⟩
     have e82 : a.tmps[82]? = some (v241) := by rw [ha]; exact putSel_on (e := (6, 82, v241)) 2 rfl rfl (hon 6 (by kernel_rfl)) rfl
     have e84 : a.tmps[84]? = some (.int .i64 a1_2) := by rw [ha]; exact putSel_on (e := (8, 84, .int .i64 a1_2)) 3 rfl rfl (hon 8 (by kernel_rfl)) rfl
     have e86 : a.tmps[86]? = some (v244) := by rw [ha]; exact putSel_on (e := (10, 86, v244)) 4 rfl rfl (hon 10 (by kernel_rfl)) rfl
     replace ha := Aside0.mk ha
     have HL236_1 := Aside0.mk Q_HL236_1
     have HL237_1 := Aside0.mk Q_HL237_1
     have HO0 := Aside0.mk Q_HO0
     have BK235 := Aside0.mk Q_BK235
     have HB := Aside0.mk Q_HB
     have HO242 := Aside0.mk (Q_HO242 (hon 6 (by kernel_rfl)))
     have HO245 := Aside0.mk (Q_HO245 (hon 10 (by kernel_rfl)))
     obtain ⟨Ao52, co52, eo52⟩ := Kd.R_slice HO242.out
     (first | subst eo52 | (injection eo52 with f1_ f2_ f3_; have f4_ := f1_.symm; have f5_ := f3_.symm; clear f1_ f2_ f3_; subst f4_; subst f5_))
     obtain ⟨Ao53, co53, eo53⟩ := Kd.R_slice HO245.out
     (first | subst eo53 | (injection eo53 with f1_ f2_ f3_; have f4_ := f1_.symm; have f5_ := f3_.symm; clear f1_ f2_ f3_; subst f4_; subst f5_))
     refine goes_ Try.func45 (by kernel_rfl) rfl #[.slice Ao52 t240.length co52, .int .i64 a1_2, .slice Ao53 y243.length co53] (by rfl) rfl rfl (by first | (simp only [List.map_toArray, List.map_cons, List.map_nil, Act.eval, Array.getD_eq_getD_getElem?, Option.getD_some, e82, e84, e86]; done) | (simp only [List.map_toArray, List.map_cons, List.map_nil, Act.eval, Array.getD_eq_getD_getElem?, Option.getD_some, e82, e84, e86]; rfl)) ?_
     with_reducible refine (haulierref36_put.calls _ _ t240 a1_2 _ _ y243 t246 _ ?side1 ?side2 ?side3 ?side4 A37.out).mono ?_
     (case side1 => repeat (first | exact (Kd.R_reads' HO242.out).2.2 | (with_reducible refine Kd.C_alloc ?_ _) | (with_reducible refine Kd.C_drewN ?_ _) | (with_reducible refine Kd.C_drew ?_)))
     (case side2 => exact (Kd.R_reads' HO242.out).2.1)
     (case side3 => repeat (first | exact (Kd.R_reads' HO245.out).2.2 | (with_reducible refine Kd.C_alloc ?_ _) | (with_reducible refine Kd.C_drewN ?_ _) | (with_reducible refine Kd.C_drew ?_)))
     (case side4 => exact (Kd.R_reads' HO245.out).2.1)
     rintro e w54 ⟨v247, rfl, ho0, hb⟩
     refine ⟨_, rfl, ?_⟩
     have n0_ := Aside0.mk (Kd.V_elder' (by (with_reducible repeat (first | apply Kd.V_alloc | apply Kd.V_drewN | apply Kd.V_drew)); exact HO0.out) (Kd.R_base ho0) hb)
     have n1_ := Aside0.mk (Kd.V_elder' (by (with_reducible repeat (first | apply Kd.V_alloc | apply Kd.V_drewN | apply Kd.V_drew)); exact HL236_1.out) (Kd.R_base ho0) hb)
     have n2_ := Aside0.mk (Kd.V_elder' (by (with_reducible repeat (first | apply Kd.V_alloc | apply Kd.V_drewN | apply Kd.V_drew)); exact HL237_1.out) (Kd.R_base ho0) hb)
     have n3_ := Aside0.mk (Kd.R_elder' (by (with_reducible repeat (first | apply Kd.R_alloc | apply Kd.R_drewN | apply Kd.R_drew)); exact HO242.out) (Kd.R_base ho0) hb)
     have n4_ := Aside0.mk (Kd.R_elder' (by (with_reducible repeat (first | apply Kd.R_alloc | apply Kd.R_drewN | apply Kd.R_drew)); exact HO245.out) (Kd.R_base ho0) hb)
     have n5_ := Aside0.mk (Kd.R_lower (Kd.R_new' (Kd.R_new' (Kd.R_newM (M := fun k_ => (w.heap.size ≤ k_)) ho0 (below_size (by repeat (first | (with_reducible first | exact HB.out | apply below_alloc | apply pw_below_drewN | apply below_drew1 | refine below_set ?_ GE235.out) | exact HB.out))) (fun k_ h_ => h_)) (Kd.R_lt (by (with_reducible repeat (first | apply Kd.R_alloc | apply Kd.R_drewN | apply Kd.R_drew)); exact HO242.out))) (Kd.R_lt (by (with_reducible repeat (first | apply Kd.R_alloc | apply Kd.R_drewN | apply Kd.R_drew)); exact HO245.out))) (below_size (by repeat (first | (with_reducible first | exact HB.out | apply below_alloc | apply pw_below_drewN | apply below_drew1 | refine below_set ?_ GE235.out) | exact HB.out))))
     have n6_ := Aside0.mk (blk_below (g := gb235) (o := .cells #[.int .i64 a1_0, .int .i64 a1_1, .int .i64 a1_2, .int .i64 a1_3, .int .i64 a1_4, .int .i64 a1_5] 24 (0, 0)) (by (with_reducible repeat (first | refine blk_drewN ?_ _ | refine blk_drew ?_ | refine blk_alloc ?_ _)); exact BK235.out) hb)
     have n7_ := Aside0.mk (below_step (by repeat (first | (with_reducible first | exact HB.out | apply below_alloc | apply pw_below_drewN | apply below_drew1 | refine below_set ?_ GE235.out) | exact HB.out)) hb)
     clear HO0 HL236_1 HL237_1 HO242 HO245 BK235 HB
     have HO0 := n0_; have HL236_1 := n1_; have HL237_1 := n2_; have HO242 := n3_; have HO245 := n4_; have HO248 := n5_; have BK235 := n6_; have HB := n7_
     clear n0_ n1_ n2_ n3_ n4_ n5_ n6_ n7_
     try clear hb; try clear hb2; try clear hk; try clear hi; try clear ho0
     refine hK.out _ _ ⟨.slice Ao52 t240.length co52, .slice Ao53 y243.length co53, v247, v250, m13_, (by rw [ha.out]; exact putSel_upk 5 hb_ rfl rfl rfl), (by (with_reducible repeat (first | apply Kd.V_alloc | apply Kd.V_drewN | apply Kd.V_drew)); exact Kd.V_mono HL236_1.out (fun _ hk => by first | exact hk | exact hk.1 | exact hk.1.1 | exact hk.1.1.1 | exact hk.1.1.1.1 | exact hk.1.1.1.1.1 | exact hk.1.1.1.1.1.1 | exact hk.1.1.1.1.1.1.1 | exact hk.1.1.1.1.1.1.1.1 | exact .inr hk | exact .inr hk.1 | exact .inr hk.1.1 | exact .inr hk.1.1.1)), (by (with_reducible repeat (first | apply Kd.V_alloc | apply Kd.V_drewN | apply Kd.V_drew)); exact Kd.V_mono HL237_1.out (fun _ hk => by first | exact hk | exact hk.1 | exact hk.1.1 | exact hk.1.1.1 | exact hk.1.1.1.1 | exact hk.1.1.1.1.1 | exact hk.1.1.1.1.1.1 | exact hk.1.1.1.1.1.1.1 | exact hk.1.1.1.1.1.1.1.1 | exact .inr hk | exact .inr hk.1 | exact .inr hk.1.1 | exact .inr hk.1.1.1)), (by (with_reducible repeat (first | apply Kd.V_alloc | apply Kd.V_drewN | apply Kd.V_drew)); exact Kd.V_mono HO0.out (fun _ hk => by first | exact hk | exact hk.1 | exact hk.1.1 | exact hk.1.1.1 | exact hk.1.1.1.1 | exact hk.1.1.1.1.1 | exact hk.1.1.1.1.1.1 | exact hk.1.1.1.1.1.1.1 | exact hk.1.1.1.1.1.1.1.1 | exact .inr hk | exact .inr hk.1 | exact .inr hk.1.1 | exact .inr hk.1.1.1)), (by (with_reducible repeat (first | refine blk_drewN ?_ _ | refine blk_drew ?_ | refine blk_alloc ?_ _)); exact BK235.out), (by repeat (first | (with_reducible first | exact HB.out | apply below_alloc | apply pw_below_drewN | apply below_drew1 | refine below_set ?_ GE235.out) | exact HB.out)), fun _ => (by (with_reducible repeat (first | apply Kd.R_alloc | apply Kd.R_drewN | apply Kd.R_drew)); exact Kd.R_mono HO242.out (fun _ hk => by first | exact hk | exact hk.1 | exact hk.1.1 | exact hk.1.1.1 | exact hk.1.1.1.1 | exact hk.1.1.1.1.1 | exact hk.1.1.1.1.1.1 | exact hk.1.1.1.1.1.1.1 | exact hk.1.1.1.1.1.1.1.1 | exact .inr hk | exact .inr hk.1 | exact .inr hk.1.1 | exact .inr hk.1.1.1)), fun _ => (by (with_reducible repeat (first | apply Kd.R_alloc | apply Kd.R_drewN | apply Kd.R_drew)); exact Kd.R_mono HO245.out (fun _ hk => by first | exact hk | exact hk.1 | exact hk.1.1 | exact hk.1.1.1 | exact hk.1.1.1.1 | exact hk.1.1.1.1.1 | exact hk.1.1.1.1.1.1 | exact hk.1.1.1.1.1.1.1 | exact hk.1.1.1.1.1.1.1.1 | exact .inr hk | exact .inr hk.1 | exact .inr hk.1.1 | exact .inr hk.1.1.1)), fun _ => (by (with_reducible repeat (first | apply Kd.R_alloc | apply Kd.R_drewN | apply Kd.R_drew)); exact Kd.R_mono HO248.out (fun _ hk => by first | exact hk | exact hk.1 | exact hk.1.1 | exact hk.1.1.1 | exact hk.1.1.1.1 | exact hk.1.1.1.1.1 | exact hk.1.1.1.1.1.1 | exact hk.1.1.1.1.1.1.1 | exact hk.1.1.1.1.1.1.1.1 | exact .inr hk | exact .inr hk.1 | exact .inr hk.1.1 | exact .inr hk.1.1.1)), fun h0_ => absurd ((hoff 12 (by kernel_rfl)).symm.trans h0_) (by decide), fun h0_ => absurd ((hoff 13 (by kernel_rfl)).symm.trans h0_) (by decide)⟩
    refine steps_cons ?_ ?_
    ·rintro b a w' ⟨v241, v244, v247, v250, m13_, ha, Q_HL236_1, Q_HL237_1, Q_HO0, Q_BK235, Q_HB, Q_HO242, Q_HO245, Q_HO248, Q_HO251, Q_X13_⟩ hb_ hon hoff
     refine ⟨_, rfl, fun K hK => ?_⟩
     have e76 : a.tmps[76]? = some (.slice (some ad236) l0.length c0) := by rw [ha]; exact (putSel_off rfl).trans rfl
     have e78 : a.tmps[78]? = some (.int .i64 a1_1) := by rw [ha]; exact putSel_on (e := (2, 78, .int .i64 a1_1)) 0 rfl rfl (hon 2 (by kernel_rfl)) rfl
     have e87 : a.tmps[87]? = some (v247) := by rw [ha]; exact putSel_on (e := (11, 87, v247)) 5 rfl rfl (hon 11 (by kernel_rfl)) rfl
     replace ha := Aside0.mk ha
     have HL236_1 := Aside0.mk Q_HL236_1
     have HL237_1 := Aside0.mk Q_HL237_1
     have HO0 := Aside0.mk Q_HO0
     have BK235 := Aside0.mk Q_BK235
     have HB := Aside0.mk Q_HB
     have HO242 := Aside0.mk (Q_HO242 (hon 6 (by kernel_rfl)))
     have HO245 := Aside0.mk (Q_HO245 (hon 10 (by kernel_rfl)))
     have HO248 := Aside0.mk (Q_HO248 (hon 11 (by kernel_rfl)))
     obtain ⟨Ao55, co55, eo55⟩ := Kd.R_slice HO248.out
     (first | subst eo55 | (injection eo55 with f1_ f2_ f3_; have f4_ := f1_.symm; have f5_ := f3_.symm; clear f1_ f2_ f3_; subst f4_; subst f5_))
     refine goes_ Try.func43 (by kernel_rfl) rfl #[.slice (some ad236) l0.length c0, .int .i64 a1_1, .slice Ao55 t246.length co55] (by rfl) rfl rfl (by first | (simp only [List.map_toArray, List.map_cons, List.map_nil, Act.eval, Array.getD_eq_getD_getElem?, Option.getD_some, e76, e78, e87]; done) | (simp only [List.map_toArray, List.map_cons, List.map_nil, Act.eval, Array.getD_eq_getD_getElem?, Option.getD_some, e76, e78, e87]; rfl)) ?_
     with_reducible refine (haulierref36_with.calls k (fun k_ => (P0_ k_ ∨ w.heap.size ≤ k_) ∧ k_ ≠ gb235) _ _ l0 a1_1 (fun k_ => some k_ = (.slice Ao55 t246.length co55 : Value).ownBlock) _ _ t246 t249 _ ?side1 ?side2 A38.out).mono ?_
     (case side1 => exact Kd.V_mono HO0.out (fun _ hk => by first | exact hk | exact hk.1 | exact hk.1.1))
     (case side2 => exact Kd.R_V (Kd.R_tight rfl (Kd.R_types (HO248.out) BK235.out (by decide))))
     rintro e w56 ⟨v250, rfl, ho0, hb⟩
     refine ⟨_, rfl, ?_⟩
     have n0_ := Aside0.mk (Kd.V_elder' (by (with_reducible repeat (first | apply Kd.V_alloc | apply Kd.V_drewN | apply Kd.V_drew)); exact HO0.out) (Kd.N_base ho0) hb)
     have n1_ := Aside0.mk (Kd.V_elder' (by (with_reducible repeat (first | apply Kd.V_alloc | apply Kd.V_drewN | apply Kd.V_drew)); exact HL236_1.out) (Kd.N_base ho0) hb)
     have n2_ := Aside0.mk (Kd.V_elder' (by (with_reducible repeat (first | apply Kd.V_alloc | apply Kd.V_drewN | apply Kd.V_drew)); exact HL237_1.out) (Kd.N_base ho0) hb)
     have n3_ := Aside0.mk (Kd.R_below (by (with_reducible repeat (first | apply Kd.R_alloc | apply Kd.R_drewN | apply Kd.R_drew)); exact HO242.out) hb)
     have n4_ := Aside0.mk (Kd.R_below (by (with_reducible repeat (first | apply Kd.R_alloc | apply Kd.R_drewN | apply Kd.R_drew)); exact HO245.out) hb)
     have n5_ := Aside0.mk (Kd.R_below (by (with_reducible repeat (first | apply Kd.R_alloc | apply Kd.R_drewN | apply Kd.R_drew)); exact HO248.out) hb)
     have n6_ := Aside0.mk (Kd.N_lower (Kd.N_mono (ok' := fun k_ => (P0_ k_ ∨ w.heap.size ≤ k_) ∧ k_ ≠ gb235) ho0 (fun k_ hk_ => Or.elim hk_ (fun hs_ => Or.elim hs_ (fun hs_ => by first | exact hs_ | exact hs_.1 | exact hs_.1.1 | exact hs_.1.1.1 | exact hs_.1.1.1.1 | exact hs_.1.1.1.1.1 | exact hs_.1.1.1.1.1.1 | exact hs_.1.1.1.1.1.1.1 | exact hs_.1.1.1.1.1.1.1.1) (fun hs_ => by have h_ := (Kd.R_types (HO248.out) BK235.out (by decide)).1 k_ hs_.symm; exact ⟨.inr (by first | exact h_.1 | exact h_.1.1 | exact h_.1.1.1 | exact h_.1.1.1.1 | exact h_.1.1.1.1.1 | exact h_.1.1.1.1.1.1 | exact h_.1.1.1.1.1.1.1 | exact h_.1.1.1.1.1.1.1.1 | exact h_.1.1.1.1.1.1.1.1.1), h_.2⟩)) (fun hn_ => ⟨.inr (Nat.le_trans (below_size (by repeat (first | (with_reducible first | exact HB.out | apply below_alloc | apply pw_below_drewN | apply below_drew1 | refine below_set ?_ GE235.out) | exact HB.out))) hn_), (Kd.freshB (g := gb235) (o := .cells #[.int .i64 a1_0, .int .i64 a1_1, .int .i64 a1_2, .int .i64 a1_3, .int .i64 a1_4, .int .i64 a1_5] 24 (0, 0)) (by (with_reducible repeat (first | refine blk_drewN ?_ _ | refine blk_drew ?_ | refine blk_alloc ?_ _)); exact BK235.out) k_ hn_)⟩))) (below_size (by repeat (first | (with_reducible first | exact HB.out | apply below_alloc | apply pw_below_drewN | apply below_drew1 | refine below_set ?_ GE235.out) | exact HB.out))))
     have n7_ := Aside0.mk (blk_below (g := gb235) (o := .cells #[.int .i64 a1_0, .int .i64 a1_1, .int .i64 a1_2, .int .i64 a1_3, .int .i64 a1_4, .int .i64 a1_5] 24 (0, 0)) (by (with_reducible repeat (first | refine blk_drewN ?_ _ | refine blk_drew ?_ | refine blk_alloc ?_ _)); exact BK235.out) hb)
     have n8_ := Aside0.mk (below_step (by repeat (first | (with_reducible first | exact HB.out | apply below_alloc | apply pw_below_drewN | apply below_drew1 | refine below_set ?_ GE235.out) | exact HB.out)) hb)
     clear HO0 HL236_1 HL237_1 HO242 HO245 HO248 BK235 HB
     have HO0 := n0_; have HL236_1 := n1_; have HL237_1 := n2_; have HO242 := n3_; have HO245 := n4_; have HO248 := n5_; have HO251 := n6_; have BK235 := n7_; have HB := n8_
     clear n0_ n1_ n2_ n3_ n4_ n5_ n6_ n7_ n8_
     try clear hb; try clear hb2; try clear hk; try clear hi; try clear ho0
     refine hK.out _ _ ⟨v241, v244, .slice Ao55 t246.length co55, v250, m13_, (by rw [ha.out]; exact putSel_upk 6 hb_ rfl rfl rfl), (by (with_reducible repeat (first | apply Kd.V_alloc | apply Kd.V_drewN | apply Kd.V_drew)); exact Kd.V_mono HL236_1.out (fun _ hk => by first | exact hk | exact hk.1 | exact hk.1.1 | exact hk.1.1.1 | exact hk.1.1.1.1 | exact hk.1.1.1.1.1 | exact hk.1.1.1.1.1.1 | exact hk.1.1.1.1.1.1.1 | exact hk.1.1.1.1.1.1.1.1 | exact .inr hk | exact .inr hk.1 | exact .inr hk.1.1 | exact .inr hk.1.1.1)), (by (with_reducible repeat (first | apply Kd.V_alloc | apply Kd.V_drewN | apply Kd.V_drew)); exact Kd.V_mono HL237_1.out (fun _ hk => by first | exact hk | exact hk.1 | exact hk.1.1 | exact hk.1.1.1 | exact hk.1.1.1.1 | exact hk.1.1.1.1.1 | exact hk.1.1.1.1.1.1 | exact hk.1.1.1.1.1.1.1 | exact hk.1.1.1.1.1.1.1.1 | exact .inr hk | exact .inr hk.1 | exact .inr hk.1.1 | exact .inr hk.1.1.1)), (by (with_reducible repeat (first | apply Kd.V_alloc | apply Kd.V_drewN | apply Kd.V_drew)); exact Kd.V_mono HO0.out (fun _ hk => by first | exact hk | exact hk.1 | exact hk.1.1 | exact hk.1.1.1 | exact hk.1.1.1.1 | exact hk.1.1.1.1.1 | exact hk.1.1.1.1.1.1 | exact hk.1.1.1.1.1.1.1 | exact hk.1.1.1.1.1.1.1.1 | exact .inr hk | exact .inr hk.1 | exact .inr hk.1.1 | exact .inr hk.1.1.1)), (by (with_reducible repeat (first | refine blk_drewN ?_ _ | refine blk_drew ?_ | refine blk_alloc ?_ _)); exact BK235.out), (by repeat (first | (with_reducible first | exact HB.out | apply below_alloc | apply pw_below_drewN | apply below_drew1 | refine below_set ?_ GE235.out) | exact HB.out)), fun _ => (by (with_reducible repeat (first | apply Kd.R_alloc | apply Kd.R_drewN | apply Kd.R_drew)); exact HO242.out), fun _ => (by (with_reducible repeat (first | apply Kd.R_alloc | apply Kd.R_drewN | apply Kd.R_drew)); exact HO245.out), fun _ => (by (with_reducible repeat (first | apply Kd.R_alloc | apply Kd.R_drewN | apply Kd.R_drew)); exact HO248.out), fun _ => (by (with_reducible repeat (first | apply Kd.N_alloc | apply Kd.N_drewN | apply Kd.N_drew)); exact HO251.out), fun h0_ => absurd ((hoff 13 (by kernel_rfl)).symm.trans h0_) (by decide)⟩
    refine steps_cons ?_ ?_
    ·rintro b a w' ⟨v241, v244, v247, v250, m13_, ha, Q_HL236_1, Q_HL237_1, Q_HO0, Q_BK235, Q_HB, Q_HO242, Q_HO245, Q_HO248, Q_HO251, Q_X13_⟩ hb_ hon hoff
     refine ⟨_, rfl, fun K hK => ?_⟩
     have e88 : a.tmps[88]? = some (v250) := by rw [ha]; exact putSel_on (e := (12, 88, v250)) 6 rfl rfl (hon 12 (by kernel_rfl)) rfl
     replace ha := Aside0.mk ha
     have HL236_1 := Aside0.mk Q_HL236_1
     have HL237_1 := Aside0.mk Q_HL237_1
     have HO0 := Aside0.mk Q_HO0
     have BK235 := Aside0.mk Q_BK235
     have HB := Aside0.mk Q_HB
     have HO242 := Aside0.mk (Q_HO242 (hon 6 (by kernel_rfl)))
     have HO245 := Aside0.mk (Q_HO245 (hon 10 (by kernel_rfl)))
     have HO248 := Aside0.mk (Q_HO248 (hon 11 (by kernel_rfl)))
     have HO251 := Aside0.mk (Q_HO251 (hon 12 (by kernel_rfl)))
     refine value_ (w1 := w') (v := v250) (by rfl) rfl ?_ ?_
     ·go_simp
      (try simp only [i64_w])
      try rfl
     refine hK.out _ _ ⟨v241, v244, v247, v250, (v250), (by rw [ha.out]; exact putSel_upk 7 hb_ rfl rfl rfl), Q_HL236_1, Q_HL237_1, Q_HO0, Q_BK235, Q_HB, Q_HO242, Q_HO245, Q_HO248, Q_HO251, fun _ => rfl⟩
    exact steps_nil
   rintro b a w56 hall ⟨v241, v244, v247, v250, m13_, ha, Q_HL236_1, Q_HL237_1, Q_HO0, Q_BK235, Q_HB, Q_HO242, Q_HO245, Q_HO248, Q_HO251, Q_X13_⟩
   clear BK235 HB HL236_1 HL237_1 HO0
   have hb2_ := hall 2 (by kernel_rfl)
   have hb5_ := hall 5 (by kernel_rfl)
   have hb6_ := hall 6 (by kernel_rfl)
   have hb8_ := hall 8 (by kernel_rfl)
   have hb10_ := hall 10 (by kernel_rfl)
   have hb11_ := hall 11 (by kernel_rfl)
   have hb12_ := hall 12 (by kernel_rfl)
   have hb13_ := hall 13 (by kernel_rfl)
   subst ha
   obtain rfl := Q_X13_ hb13_
   simp only [putSel, hb2_, hb5_, hb6_, hb8_, hb10_, hb11_, hb12_, hb13_, if_true, Act.put, List.setIfInBounds_toArray, List.set_cons_zero, List.set_cons_succ]
   have HL236_1 := Aside0.mk Q_HL236_1
   clear Q_HL236_1
   have HL237_1 := Aside0.mk Q_HL237_1
   clear Q_HL237_1
   have HO0 := Aside0.mk Q_HO0
   clear Q_HO0
   have BK235 := Aside0.mk Q_BK235
   clear Q_BK235
   have HB := Aside0.mk Q_HB
   clear Q_HB
   have HO242 := Aside0.mk (Q_HO242 hb6_)
   clear Q_HO242
   have HO245 := Aside0.mk (Q_HO245 hb10_)
   clear Q_HO245
   have HO248 := Aside0.mk (Q_HO248 hb11_)
   clear Q_HO248
   have HO251 := Aside0.mk (Q_HO251 hb12_)
   clear Q_HO251 hall hb2_ hb5_ hb6_ hb8_ hb10_ hb11_ hb12_ hb13_
   obtain ⟨Ao57, co57, eo57⟩ := Kd.N_slice HO251.out
   subst eo57
   try go_wp2
   have n0_ := Aside0.mk (Kd.V_drew HO0.out)
   have n1_ := Aside0.mk (Kd.V_drew HL236_1.out)
   have n2_ := Aside0.mk (Kd.V_drew HL237_1.out)
   have n3_ := Aside0.mk (Kd.R_drew HO242.out)
   have n4_ := Aside0.mk (Kd.R_drew HO245.out)
   have n5_ := Aside0.mk (Kd.R_drew HO248.out)
   have n6_ := Aside0.mk (Kd.N_drew HO251.out)
   have n7_ := Aside0.mk (blk_drew BK235.out)
   have n8_ := Aside0.mk (below_drew1 HB.out)
   clear HO0 HL236_1 HL237_1 HO242 HO245 HO248 HO251 BK235 HB
   have HO0 := n0_; have HL236_1 := n1_; have HL237_1 := n2_; have HO242 := n3_; have HO245 := n4_; have HO248 := n5_; have HO251 := n6_; have BK235 := n7_; have HB := n8_
   clear n0_ n1_ n2_ n3_ n4_ n5_ n6_ n7_ n8_
   have p252 : 0 ≤ (a1_3 : Int) := of_decide_eq_true (by first | (with_reducible assumption) | assumption)
   have q252 : a1_3 < (t249.length : Int) := of_decide_eq_true (by first | (with_reducible assumption) | assumption)
   obtain ⟨ad252, A252_1, c252_1, e252, hx252_0, hx252_1, hl252_1, hi252_1⟩ := at_T35 (Kd.N_reads' HO251.out).2.2 a1_3 p252 q252
   cases e252
   obtain ⟨ce252, hce252, hMe252, hcc252⟩ := Kd.N_get HO251.out z35 a1_3 p252 (by first | exact q252 | exact of_decide_eq_true (by first | (with_reducible assumption) | assumption) | (have e_ := (Kd.N_reads' HO251.out).1; omega))
   obtain ⟨ua252_1, uc252_1, rfl, ul252_1, ge252_1⟩ := k35_openF hMe252
   have hv252_1 := hcc252 1 _ rfl
   rw [add_field _ _ 1 (by omega)] at hv252_1
   replace hv252_1 := Option.some.inj (hv252_1.symm.trans hx252_1)
   injection hv252_1 with hva_ hvn_ hvc_
   rw [hva_] at ge252_1
   rw [hvc_] at ul252_1
   have HL252_1 := Aside0.mk (show Kd.V (Kd.int .i64) 3 _ w.heap.size _ _ ((rd_T35 t249 a1_3).f1) from Kd.V_mk ul252_1 ge252_1)
   clear hva_ hvn_ hvc_ ge252_1 ul252_1 hcc252 hce252
   have HR252_1 := Aside0.mk hi252_1
   have HC252_1 := Aside0.mk hl252_1
   clear hi252_1 hl252_1
   replace p252 := eq_true p252
   replace q252 := eq_true q252
   refine start_ (n := 20) (S := fun w' => w'.cell? ⟨gb235, 0, none⟩ = some (.int .i64 a1_0) ∧ w'.cell? ⟨gb235, 1, none⟩ = some (.int .i64 a1_1) ∧ w'.cell? ⟨gb235, 2, none⟩ = some (.int .i64 a1_2) ∧ w'.cell? ⟨gb235, 3, none⟩ = some (.int .i64 a1_3) ∧ w'.cell? ⟨gb235, 4, none⟩ = some (.int .i64 a1_4) ∧ w'.cell? ⟨gb235, 5, none⟩ = some (.int .i64 a1_5) ∧ w'.cell? (ad252.add ((a1_3).toNat * 2)) = some (.int .i64 ((rd_T35 t249 a1_3).f0)) ∧ w'.cell? ⟨(ad252.add ((a1_3).toNat * 2)).block, (ad252.add ((a1_3).toNat * 2)).off + 1, none⟩ = some (.slice A252_1 ((rd_T35 t249 a1_3).f1).length c252_1)) (ds := []) #[false, false, false, false, false, false, false, false, false, false, false, false, false, false, false, false, false, false, false, false] (by kernel_rfl) rfl rfl ⟨(blk_cell BK235.out 0).trans rfl, (blk_cell BK235.out 1).trans rfl, (blk_cell BK235.out 2).trans rfl, (blk_cell BK235.out 3).trans rfl, (blk_cell BK235.out 4).trans rfl, (blk_cell BK235.out 5).trans rfl, hx252_0, hx252_1⟩ (fun hHeld => ?_); refine with_tabW haulierref36_exchange.tab6 haulierref36_exchange.bits6 (fun HT_ HW_ => ?_)
   generalize w56.drew = w58 at HO0 HL236_1 HL237_1 HO242 HO245 HO248 HO251 BK235 HB HL252_1 HR252_1 hx252_0 hx252_1 hHeld ⊢
   refine pure_ (i := 0) (N := some 89) (v := ?_) (a' := ?_) #[true, false, false, false, false, false, false, false, false, false, false, false, false, false, false, false, false, false, false, false] rfl rfl (any_of HT_.out (by kernel_rfl)) (fun _ _ _ h => h) (Or.inl ⟨by rfl, ?_⟩) ?_ ?_
   rotate_left
   ·intro w'
    go_simp
    with_reducible rfl
   rotate_left
   ·simp only [Act.put, List.setIfInBounds_toArray, List.set_cons_zero, List.set_cons_succ, i64_w, i32_w]
    rfl
   refine pure_ (i := 1) (N := some 90) (v := ?_) (a' := ?_) #[true, true, false, false, false, false, false, false, false, false, false, false, false, false, false, false, false, false, false, false] rfl rfl (any_of HT_.out (by kernel_rfl)) (fun _ _ _ h => h) (Or.inl ⟨by rfl, ?_⟩) ?_ ?_
   rotate_left
   ·intro w'
    go_simp
    with_reducible rfl
   rotate_left
   ·simp only [Act.put, List.setIfInBounds_toArray, List.set_cons_zero, List.set_cons_succ, i64_w, i32_w]
    rfl
   refine pure_ (i := 3) (N := some 92) (v := ?_) (a' := ?_) #[true, true, false, true, false, false, false, false, false, false, false, false, false, false, false, false, false, false, false, false] rfl rfl (any_of HT_.out (by kernel_rfl)) (fun _ _ _ h => h) (Or.inl ⟨by rfl, ?_⟩) ?_ ?_
   rotate_left
   ·intro w'
    go_simp
    with_reducible rfl
   rotate_left
   ·simp only [Act.put, List.setIfInBounds_toArray, List.set_cons_zero, List.set_cons_succ, i64_w, i32_w]
    rfl
   refine pure_ (i := 4) (N := some 93) (v := ?_) (a' := ?_) #[true, true, false, true, true, false, false, false, false, false, false, false, false, false, false, false, false, false, false, false] rfl rfl (any_of HT_.out (by kernel_rfl)) (fun _ _ _ h => h) (Or.inl ⟨by rfl, ?_⟩) ?_ ?_
   rotate_left
   ·intro w'
    go_simp
    with_reducible rfl
   rotate_left
   ·simp only [Act.put, List.setIfInBounds_toArray, List.set_cons_zero, List.set_cons_succ, i64_w, i32_w]
    rfl
   refine pure_ (i := 9) (N := some 98) (v := ?_) (a' := ?_) #[true, true, false, true, true, false, false, false, false, true, false, false, false, false, false, false, false, false, false, false] rfl rfl (any_of HT_.out (by kernel_rfl)) (fun _ _ _ h => h) (Or.inl ⟨by rfl, ?_⟩) ?_ ?_
   rotate_left
   ·intro w'
    go_simp
    with_reducible rfl
   rotate_left
   ·simp only [Act.put, List.setIfInBounds_toArray, List.set_cons_zero, List.set_cons_succ, i64_w, i32_w]
    rfl
   refine pure_ (i := 12) (N := some 101) (v := ?_) (a' := ?_) #[true, true, false, true, true, false, false, false, false, true, false, false, true, false, false, false, false, false, false, false] rfl rfl (any_of HT_.out (by kernel_rfl)) (fun _ _ _ h => h) (Or.inl ⟨by rfl, ?_⟩) ?_ ?_
   rotate_left
   ·intro w'
    go_simp
    with_reducible rfl
   rotate_left
   ·simp only [Act.put, List.setIfInBounds_toArray, List.set_cons_zero, List.set_cons_succ, i64_w, i32_w]
    rfl
   refine pure_ (i := 14) (N := some 103) (v := ?_) (a' := ?_) #[true, true, false, true, true, false, false, false, false, true, false, false, true, false, true, false, false, false, false, false] rfl rfl (any_of HT_.out (by kernel_rfl)) (fun _ _ _ h => h) (Or.inl ⟨by rfl, ?_⟩) ?_ ?_
   rotate_left
   ·intro w'
    go_simp
    with_reducible rfl
   rotate_left
   ·simp only [Act.put, List.setIfInBounds_toArray, List.set_cons_zero, List.set_cons_succ, i64_w, i32_w]
    rfl
   refine take_ (i := 2) (N := some 91) (v := ?_) (a' := ?_) #[true, true, true, true, true, false, false, false, false, true, false, false, true, false, true, false, false, false, false, false] rfl rfl (take_ofW HT_.out HW_.out (by kernel_rfl)) (fun _ _ _ h => h) (Or.inl ⟨by rfl, ?_⟩) hHeld ?_ ?_
   rotate_left
   ·rintro w' ⟨s0, s1, s2, s3, s4, s5, s6, s7⟩
    go_simp
    with_reducible rfl
   rotate_left
   ·simp only [Act.put, List.setIfInBounds_toArray, List.set_cons_zero, List.set_cons_succ, i64_w, i32_w]
    rfl
   refine take_ (i := 5) (N := some 94) (v := ?_) (a' := ?_) #[true, true, true, true, true, true, false, false, false, true, false, false, true, false, true, false, false, false, false, false] rfl rfl (take_ofW HT_.out HW_.out (by kernel_rfl)) (fun _ _ _ h => h) (Or.inl ⟨by rfl, ?_⟩) hHeld ?_ ?_
   rotate_left
   ·rintro w' ⟨s0, s1, s2, s3, s4, s5, s6, s7⟩
    go_simp
    with_reducible rfl
   rotate_left
   ·simp only [Act.put, List.setIfInBounds_toArray, List.set_cons_zero, List.set_cons_succ, i64_w, i32_w]
    rfl
   refine pure_ (i := 6) (N := some 95) (v := ?_) (a' := ?_) #[true, true, true, true, true, true, true, false, false, true, false, false, true, false, true, false, false, false, false, false] rfl rfl (any_of HT_.out (by kernel_rfl)) (fun _ _ _ h => h) (Or.inl ⟨by rfl, ?_⟩) ?_ ?_
   rotate_left
   ·intro w'
    go_simp
    with_reducible rfl
   rotate_left
   ·simp only [Act.put, List.setIfInBounds_toArray, List.set_cons_zero, List.set_cons_succ, i64_w, i32_w]
    rfl
   refine pure_ (i := 7) (N := some 96) (v := ?_) (a' := ?_) #[true, true, true, true, true, true, true, true, false, true, false, false, true, false, true, false, false, false, false, false] rfl rfl (any_of HT_.out (by kernel_rfl)) (fun _ _ _ h => h) (Or.inl ⟨by rfl, ?_⟩) ?_ ?_
   rotate_left
   ·intro w'
    go_simp
    with_reducible rfl
   rotate_left
   ·simp only [Act.put, List.setIfInBounds_toArray, List.set_cons_zero, List.set_cons_succ, i64_w, i32_w]
    rfl
   refine take_ (i := 8) (N := some 97) (v := ?_) (a' := ?_) #[true, true, true, true, true, true, true, true, true, true, false, false, true, false, true, false, false, false, false, false] rfl rfl (take_ofW HT_.out HW_.out (by kernel_rfl)) (fun _ _ _ h => h) (Or.inl ⟨by rfl, ?_⟩) hHeld ?_ ?_
   rotate_left
   ·rintro w' ⟨s0, s1, s2, s3, s4, s5, s6, s7⟩
    go_simp
    with_reducible rfl
   rotate_left
   ·simp only [Act.put, List.setIfInBounds_toArray, List.set_cons_zero, List.set_cons_succ, i64_w, i32_w]
    rfl
   refine take_ (i := 10) (N := some 99) (v := ?_) (a' := ?_) #[true, true, true, true, true, true, true, true, true, true, true, false, true, false, true, false, false, false, false, false] rfl rfl (take_ofW HT_.out HW_.out (by kernel_rfl)) (fun _ _ _ h => h) (Or.inl ⟨by rfl, ?_⟩) hHeld ?_ ?_
   rotate_left
   ·rintro w' ⟨s0, s1, s2, s3, s4, s5, s6, s7⟩
    go_simp
    with_reducible rfl
   rotate_left
   ·simp only [Act.put, List.setIfInBounds_toArray, List.set_cons_zero, List.set_cons_succ, i64_w, i32_w]
    rfl
   refine take_ (i := 13) (N := some 102) (v := ?_) (a' := ?_) #[true, true, true, true, true, true, true, true, true, true, true, false, true, true, true, false, false, false, false, false] rfl rfl (take_ofW HT_.out HW_.out (by kernel_rfl)) (fun _ _ _ h => h) (Or.inl ⟨by rfl, ?_⟩) hHeld ?_ ?_
   rotate_left
   ·rintro w' ⟨s0, s1, s2, s3, s4, s5, s6, s7⟩
    go_simp
    with_reducible rfl
   rotate_left
   ·simp only [Act.put, List.setIfInBounds_toArray, List.set_cons_zero, List.set_cons_succ, i64_w, i32_w]
    rfl
   refine join_ (σ := Value × Value) 4 #[true, true, true, true, true, true, true, true, true, true, true, true, true, true, true, true, false, false, false, false] (fun s_ => [(100, s_.1), (104, s_.2)]) (fun s_ w' => (w'.cell? ⟨gb235, 0, none⟩ = some (.int .i64 a1_0) ∧ w'.cell? ⟨gb235, 1, none⟩ = some (.int .i64 a1_1) ∧ w'.cell? ⟨gb235, 2, none⟩ = some (.int .i64 a1_2) ∧ w'.cell? ⟨gb235, 3, none⟩ = some (.int .i64 a1_3) ∧ w'.cell? ⟨gb235, 4, none⟩ = some (.int .i64 a1_4) ∧ w'.cell? ⟨gb235, 5, none⟩ = some (.int .i64 a1_5) ∧ w'.cell? (ad252.add ((a1_3).toNat * 2)) = some (.int .i64 ((rd_T35 t249 a1_3).f0)) ∧ w'.cell? ⟨(ad252.add ((a1_3).toNat * 2)).block, (ad252.add ((a1_3).toNat * 2)).off + 1, none⟩ = some (.slice A252_1 ((rd_T35 t249 a1_3).f1).length c252_1)) ∧ (Kd.V (Kd.int .i64) 3 w' w.heap.size (fun k_ => (P0_ k_ ∨ w.heap.size ≤ k_) ∧ k_ ≠ gb235) (.slice (some ad238) ((rd_T35 l0 a1_1).f1).length c236_1) ((rd_T35 l0 a1_1).f1)) ∧ (Kd.V (Kd.int .i64) 3 w' w.heap.size (fun k_ => (P0_ k_ ∨ w.heap.size ≤ k_) ∧ k_ ≠ gb235) (.slice (some ad239) ((rd_T35 l0 a1_3).f1).length c237_1) ((rd_T35 l0 a1_3).f1)) ∧ (Kd.V (Kd.int .i64) 3 w' w.heap.size (fun k_ => (P0_ k_ ∨ w.heap.size ≤ k_) ∧ k_ ≠ gb235) (.slice A252_1 ((rd_T35 t249 a1_3).f1).length c252_1) ((rd_T35 t249 a1_3).f1)) ∧ (Kd.V k35 35 w' w.heap.size (fun k_ => (P0_ k_ ∨ w.heap.size ≤ k_) ∧ k_ ≠ gb235) (.slice (some ad236) l0.length c0) l0) ∧ (Kd.R (Kd.int .i64) 3 w' w.heap.size (fun k_ => (w.heap.size ≤ k_)) v241 t240) ∧ (Kd.R (Kd.int .i64) 3 w' w.heap.size (fun k_ => (w.heap.size ≤ k_)) v244 y243) ∧ (Kd.R (Kd.int .i64) 3 w' w.heap.size (fun k_ => (w.heap.size ≤ k_)) v247 t246) ∧ (Kd.N k35 35 w' w.heap.size (fun k_ => (P0_ k_ ∨ w.heap.size ≤ k_) ∧ k_ ≠ gb235) (.slice (some ad252) t249.length co57) t249) ∧ (Kd.R (Kd.int .i64) 3 w' w.heap.size (fun k_ => (w.heap.size ≤ k_)) s_.1 t253) ∧ (Kd.R (Kd.int .i64) 3 w' w.heap.size (fun k_ => (w.heap.size ≤ k_)) s_.2 y256) ∧ (w'.heap[gb235]? = some (.cells #[.int .i64 a1_0, .int .i64 a1_1, .int .i64 a1_2, .int .i64 a1_3, .int .i64 a1_4, .int .i64 a1_5] 24 (0, 0))) ∧ (Below w.heap.size w w')) ?_ ?_
   rotate_left
   ·intro hCont
    refine two_ (i := 11) (j := 15) (Ni := some 100) (Nj := some 104) #[true, true, true, true, true, true, true, true, true, true, true, true, true, true, true, false, false, false, false, false] #[true, true, true, true, true, true, true, true, true, true, true, false, true, true, true, true, false, false, false, false] rfl rfl rfl rfl (two_of HT_.out (by kernel_rfl)) (by decide) (by decide) (fun K hK => ?_) (fun K hK => ?_)
    ·skip
     refine goes_ Try.func44 (by kernel_rfl) rfl #[.slice A252_1 ((rd_T35 t249 a1_3).f1).length c252_1, .int .i64 a1_4, .int .i64 1] (by rfl) rfl rfl (by (try simp only [List.map_toArray, List.map_cons, List.map_nil]); first | done | rfl | (simp only [List.length_drop, List.length_take]; rfl)) ?_
     with_reducible refine (haulierref36_cut.calls k _ _ ((rd_T35 t249 a1_3).f1) a1_4 1 t253 _ ?side1 ?side2 A40.out).mono ?_
     (case side1 => repeat (first | exact (by repeat (first | (with_reducible exact HR252_1.out) | (with_reducible refine Kd.C_alloc ?_ _) | (with_reducible refine Kd.C_drewN ?_ _) | (with_reducible refine Kd.C_drew ?_) | exact HR252_1.out | exact (Kd.V_reads' HL252_1.out).2.2)) | (with_reducible refine Kd.C_alloc ?_ _) | (with_reducible refine Kd.C_drewN ?_ _) | (with_reducible refine Kd.C_drew ?_)))
     (case side2 => exact HC252_1.out)
     rintro e w59 ⟨v254, rfl, ho0, hb⟩
     have HS6_ := (hb.cell (World.block_lt_of_cell? _ _ (hHeld.2.2.2.2.2.2.1))).trans (hHeld.2.2.2.2.2.2.1)
     have HS7_ := (hb.cell (World.block_lt_of_cell? _ _ (hHeld.2.2.2.2.2.2.2))).trans (hHeld.2.2.2.2.2.2.2)
     refine ⟨_, rfl, ?_⟩
     have n0_ := Aside0.mk (Kd.V_elder' (by (with_reducible repeat (first | apply Kd.V_alloc | apply Kd.V_drewN | apply Kd.V_drew)); exact HO0.out) (Kd.R_base ho0) hb)
     have n1_ := Aside0.mk (Kd.V_elder' (by (with_reducible repeat (first | apply Kd.V_alloc | apply Kd.V_drewN | apply Kd.V_drew)); exact HL236_1.out) (Kd.R_base ho0) hb)
     have n2_ := Aside0.mk (Kd.V_elder' (by (with_reducible repeat (first | apply Kd.V_alloc | apply Kd.V_drewN | apply Kd.V_drew)); exact HL237_1.out) (Kd.R_base ho0) hb)
     have n3_ := Aside0.mk (Kd.R_elder' (by (with_reducible repeat (first | apply Kd.R_alloc | apply Kd.R_drewN | apply Kd.R_drew)); exact HO242.out) (Kd.R_base ho0) hb)
     have n4_ := Aside0.mk (Kd.R_elder' (by (with_reducible repeat (first | apply Kd.R_alloc | apply Kd.R_drewN | apply Kd.R_drew)); exact HO245.out) (Kd.R_base ho0) hb)
     have n5_ := Aside0.mk (Kd.R_elder' (by (with_reducible repeat (first | apply Kd.R_alloc | apply Kd.R_drewN | apply Kd.R_drew)); exact HO248.out) (Kd.R_base ho0) hb)
     have n6_ := Aside0.mk (Kd.N_elder' (by (with_reducible repeat (first | apply Kd.N_alloc | apply Kd.N_drewN | apply Kd.N_drew)); exact HO251.out) (Kd.R_base ho0) hb)
     have n7_ := Aside0.mk (Kd.V_elder' (by (with_reducible repeat (first | apply Kd.V_alloc | apply Kd.V_drewN | apply Kd.V_drew)); exact HL252_1.out) (Kd.R_base ho0) hb)
     have n8_ := Aside0.mk (Kd.R_lower (Kd.R_new' (Kd.R_new' (Kd.R_new' (Kd.R_newM (M := fun k_ => (w.heap.size ≤ k_)) ho0 (below_size (by repeat (first | (with_reducible first | exact HB.out | apply below_alloc | apply pw_below_drewN | apply below_drew1 | refine below_set ?_ GE235.out) | exact HB.out))) (fun k_ h_ => h_)) (Kd.R_lt (by (with_reducible repeat (first | apply Kd.R_alloc | apply Kd.R_drewN | apply Kd.R_drew)); exact HO242.out))) (Kd.R_lt (by (with_reducible repeat (first | apply Kd.R_alloc | apply Kd.R_drewN | apply Kd.R_drew)); exact HO245.out))) (Kd.R_lt (by (with_reducible repeat (first | apply Kd.R_alloc | apply Kd.R_drewN | apply Kd.R_drew)); exact HO248.out))) (below_size (by repeat (first | (with_reducible first | exact HB.out | apply below_alloc | apply pw_below_drewN | apply below_drew1 | refine below_set ?_ GE235.out) | exact HB.out))))
     have n9_ := Aside0.mk (blk_below (g := gb235) (o := .cells #[.int .i64 a1_0, .int .i64 a1_1, .int .i64 a1_2, .int .i64 a1_3, .int .i64 a1_4, .int .i64 a1_5] 24 (0, 0)) (by (with_reducible repeat (first | refine blk_drewN ?_ _ | refine blk_drew ?_ | refine blk_alloc ?_ _)); exact BK235.out) hb)
     have n10_ := Aside0.mk (Kd.C_below (by repeat (first | (with_reducible exact HR252_1.out) | (with_reducible refine Kd.C_alloc ?_ _) | (with_reducible refine Kd.C_drewN ?_ _) | (with_reducible refine Kd.C_drew ?_) | exact HR252_1.out | exact (Kd.V_reads' HL252_1.out).2.2)) hb)
     have n11_ := Aside0.mk (below_step (by repeat (first | (with_reducible first | exact HB.out | apply below_alloc | apply pw_below_drewN | apply below_drew1 | refine below_set ?_ GE235.out) | exact HB.out)) hb)
     clear HO0 HL236_1 HL237_1 HO242 HO245 HO248 HO251 HL252_1 BK235 HR252_1 HB
     have HO0 := n0_; have HL236_1 := n1_; have HL237_1 := n2_; have HO242 := n3_; have HO245 := n4_; have HO248 := n5_; have HO251 := n6_; have HL252_1 := n7_; have HO255 := n8_; have BK235 := n9_; have HR252_1 := n10_; have HB := n11_
     clear n0_ n1_ n2_ n3_ n4_ n5_ n6_ n7_ n8_ n9_ n10_ n11_
     try clear hb; try clear hb2; try clear hk; try clear hi; try clear ho0
     refine hK.out _ _ ⟨(blk_cell BK235.out 0).trans rfl, (blk_cell BK235.out 1).trans rfl, (blk_cell BK235.out 2).trans rfl, (blk_cell BK235.out 3).trans rfl, (blk_cell BK235.out 4).trans rfl, (blk_cell BK235.out 5).trans rfl, HS6_, HS7_⟩ (fun hHeld => ?_)
     clear hK K
     refine norm_ (a' := ?_) ?_ ?_
     rotate_left
     ·show Act.put _ (some 100) _ = _
      simp only [Act.put, List.setIfInBounds_toArray, List.set_cons_zero, List.set_cons_succ, i64_w, i32_w]
      rfl
     refine one_ (i := 15) (N := some 104) #[true, true, true, true, true, true, true, true, true, true, true, true, true, true, true, true, false, false, false, false] rfl rfl (one_of HT_.out (by kernel_rfl)) (by decide) (fun K hK => ?_)
     refine Kd.R_lit_step (Kd.int .i64) _ 3 ?hg (N := 104) ?hd (xs := ([rd ((rd_T35 l0 a1_1).f1) a1_2] : List Int)) (inner := [.int .i64 (rd ((rd_T35 l0 a1_1).f1) a1_2)]) (ok := fun _ => True) (okp := fun _ => True) ?hr ?hp (fun _ hk => hk) trivial (Below.refl _ _) (Nat.le_refl _) (by simp) ?_; (case hd => rfl); (case hg => rfl); (case hr => first | (go_simp; done) | (go_simp; rfl)); (case hp => exact (Reps.one (show Kd.M (Kd.int .i64) _ _ _ (rd ((rd_T35 l0 a1_1).f1) a1_2) [.int .i64 (rd ((rd_T35 l0 a1_1).f1) a1_2)] from rfl) (Reps.none _ _)))
     intro v257 w60 ho61 hb hg_ hnew_
     have HS6_ := (hb.cell (World.block_lt_of_cell? _ _ (hHeld.2.2.2.2.2.2.1))).trans (hHeld.2.2.2.2.2.2.1)
     have HS7_ := (hb.cell (World.block_lt_of_cell? _ _ (hHeld.2.2.2.2.2.2.2))).trans (hHeld.2.2.2.2.2.2.2)
     clear hg_ hnew_
     (first | rw [← Ny256.out] at ho61 | (simp only [Int.reduceToNat] at ho61; rw [← Ny256.out] at ho61))
     have n0_ := Aside0.mk (Kd.V_elder' (by (with_reducible repeat (first | apply Kd.V_alloc | apply Kd.V_drewN | apply Kd.V_drew)); exact HO0.out) (Kd.R_base ho61) hb)
     have n1_ := Aside0.mk (Kd.V_elder' (by (with_reducible repeat (first | apply Kd.V_alloc | apply Kd.V_drewN | apply Kd.V_drew)); exact HL236_1.out) (Kd.R_base ho61) hb)
     have n2_ := Aside0.mk (Kd.V_elder' (by (with_reducible repeat (first | apply Kd.V_alloc | apply Kd.V_drewN | apply Kd.V_drew)); exact HL237_1.out) (Kd.R_base ho61) hb)
     have n3_ := Aside0.mk (Kd.R_elder' (by (with_reducible repeat (first | apply Kd.R_alloc | apply Kd.R_drewN | apply Kd.R_drew)); exact HO242.out) (Kd.R_base ho61) hb)
     have n4_ := Aside0.mk (Kd.R_elder' (by (with_reducible repeat (first | apply Kd.R_alloc | apply Kd.R_drewN | apply Kd.R_drew)); exact HO245.out) (Kd.R_base ho61) hb)
     have n5_ := Aside0.mk (Kd.R_elder' (by (with_reducible repeat (first | apply Kd.R_alloc | apply Kd.R_drewN | apply Kd.R_drew)); exact HO248.out) (Kd.R_base ho61) hb)
     have n6_ := Aside0.mk (Kd.N_elder' (by (with_reducible repeat (first | apply Kd.N_alloc | apply Kd.N_drewN | apply Kd.N_drew)); exact HO251.out) (Kd.R_base ho61) hb)
     have n7_ := Aside0.mk (Kd.V_elder' (by (with_reducible repeat (first | apply Kd.V_alloc | apply Kd.V_drewN | apply Kd.V_drew)); exact HL252_1.out) (Kd.R_base ho61) hb)
     have n8_ := Aside0.mk (Kd.R_elder' (by (with_reducible repeat (first | apply Kd.R_alloc | apply Kd.R_drewN | apply Kd.R_drew)); exact HO255.out) (Kd.R_base ho61) hb)
     have n9_ := Aside0.mk (Kd.R_lower (Kd.R_new' (Kd.R_new' (Kd.R_new' (Kd.R_new' (Kd.R_newM (M := fun k_ => (w.heap.size ≤ k_)) ho61 (below_size (by repeat (first | (with_reducible first | exact HB.out | apply below_alloc | apply pw_below_drewN | apply below_drew1 | refine below_set ?_ GE235.out) | exact HB.out))) (fun k_ h_ => h_)) (Kd.R_lt (by (with_reducible repeat (first | apply Kd.R_alloc | apply Kd.R_drewN | apply Kd.R_drew)); exact HO242.out))) (Kd.R_lt (by (with_reducible repeat (first | apply Kd.R_alloc | apply Kd.R_drewN | apply Kd.R_drew)); exact HO245.out))) (Kd.R_lt (by (with_reducible repeat (first | apply Kd.R_alloc | apply Kd.R_drewN | apply Kd.R_drew)); exact HO248.out))) (Kd.R_lt (by (with_reducible repeat (first | apply Kd.R_alloc | apply Kd.R_drewN | apply Kd.R_drew)); exact HO255.out))) (below_size (by repeat (first | (with_reducible first | exact HB.out | apply below_alloc | apply pw_below_drewN | apply below_drew1 | refine below_set ?_ GE235.out) | exact HB.out))))
     have n10_ := Aside0.mk (blk_below (g := gb235) (o := .cells #[.int .i64 a1_0, .int .i64 a1_1, .int .i64 a1_2, .int .i64 a1_3, .int .i64 a1_4, .int .i64 a1_5] 24 (0, 0)) (by (with_reducible repeat (first | refine blk_drewN ?_ _ | refine blk_drew ?_ | refine blk_alloc ?_ _)); exact BK235.out) hb)
     have n11_ := Aside0.mk (Kd.C_below (by repeat (first | (with_reducible exact HR252_1.out) | (with_reducible refine Kd.C_alloc ?_ _) | (with_reducible refine Kd.C_drewN ?_ _) | (with_reducible refine Kd.C_drew ?_) | exact HR252_1.out | exact (Kd.V_reads' HL252_1.out).2.2)) hb)
     have n12_ := Aside0.mk (below_step (by repeat (first | (with_reducible first | exact HB.out | apply below_alloc | apply pw_below_drewN | apply below_drew1 | refine below_set ?_ GE235.out) | exact HB.out)) hb)
     clear HO0 HL236_1 HL237_1 HO242 HO245 HO248 HO251 HL252_1 HO255 BK235 HR252_1 HB
     have HO0 := n0_; have HL236_1 := n1_; have HL237_1 := n2_; have HO242 := n3_; have HO245 := n4_; have HO248 := n5_; have HO251 := n6_; have HL252_1 := n7_; have HO255 := n8_; have HO258 := n9_; have BK235 := n10_; have HR252_1 := n11_; have HB := n12_
     clear n0_ n1_ n2_ n3_ n4_ n5_ n6_ n7_ n8_ n9_ n10_ n11_ n12_ hb ho61
     refine hK.out _ _ ⟨(blk_cell BK235.out 0).trans rfl, (blk_cell BK235.out 1).trans rfl, (blk_cell BK235.out 2).trans rfl, (blk_cell BK235.out 3).trans rfl, (blk_cell BK235.out 4).trans rfl, (blk_cell BK235.out 5).trans rfl, HS6_, HS7_⟩ (fun hHeld => ?_)
     clear hK K
     refine norm_ (a' := ?_) ?_ ?_
     rotate_left
     ·show Act.put _ (some 104) _ = _
      simp only [Act.put, List.setIfInBounds_toArray, List.set_cons_zero, List.set_cons_succ, i64_w, i32_w]
      rfl
     exact norm_ (by simp only [putAll, Act.put, List.setIfInBounds_toArray, List.set_cons_zero, List.set_cons_succ]) (hCont (v254, v257) _ ⟨hHeld, (by (with_reducible repeat (first | apply Kd.V_alloc | apply Kd.V_drewN | apply Kd.V_drew)); exact Kd.V_mono HL236_1.out (fun _ hk => by first | exact hk | exact hk.1 | exact hk.1.1 | exact hk.1.1.1 | exact hk.1.1.1.1 | exact hk.1.1.1.1.1 | exact hk.1.1.1.1.1.1 | exact hk.1.1.1.1.1.1.1 | exact hk.1.1.1.1.1.1.1.1 | exact .inr hk | exact .inr hk.1 | exact .inr hk.1.1 | exact .inr hk.1.1.1)), (by (with_reducible repeat (first | apply Kd.V_alloc | apply Kd.V_drewN | apply Kd.V_drew)); exact Kd.V_mono HL237_1.out (fun _ hk => by first | exact hk | exact hk.1 | exact hk.1.1 | exact hk.1.1.1 | exact hk.1.1.1.1 | exact hk.1.1.1.1.1 | exact hk.1.1.1.1.1.1 | exact hk.1.1.1.1.1.1.1 | exact hk.1.1.1.1.1.1.1.1 | exact .inr hk | exact .inr hk.1 | exact .inr hk.1.1 | exact .inr hk.1.1.1)), (by (with_reducible repeat (first | apply Kd.V_alloc | apply Kd.V_drewN | apply Kd.V_drew)); exact Kd.V_mono HL252_1.out (fun _ hk => by first | exact hk | exact hk.1 | exact hk.1.1 | exact hk.1.1.1 | exact hk.1.1.1.1 | exact hk.1.1.1.1.1 | exact hk.1.1.1.1.1.1 | exact hk.1.1.1.1.1.1.1 | exact hk.1.1.1.1.1.1.1.1 | exact .inr hk | exact .inr hk.1 | exact .inr hk.1.1 | exact .inr hk.1.1.1)), (by (with_reducible repeat (first | apply Kd.V_alloc | apply Kd.V_drewN | apply Kd.V_drew)); exact Kd.V_mono HO0.out (fun _ hk => by first | exact hk | exact hk.1 | exact hk.1.1 | exact hk.1.1.1 | exact hk.1.1.1.1 | exact hk.1.1.1.1.1 | exact hk.1.1.1.1.1.1 | exact hk.1.1.1.1.1.1.1 | exact hk.1.1.1.1.1.1.1.1 | exact .inr hk | exact .inr hk.1 | exact .inr hk.1.1 | exact .inr hk.1.1.1)), (by (with_reducible repeat (first | apply Kd.R_alloc | apply Kd.R_drewN | apply Kd.R_drew)); exact Kd.R_mono HO242.out (fun _ hk => by first | exact hk | exact hk.1 | exact hk.1.1 | exact hk.1.1.1 | exact hk.1.1.1.1 | exact hk.1.1.1.1.1 | exact hk.1.1.1.1.1.1 | exact hk.1.1.1.1.1.1.1 | exact hk.1.1.1.1.1.1.1.1 | exact .inr hk | exact .inr hk.1 | exact .inr hk.1.1 | exact .inr hk.1.1.1)), (by (with_reducible repeat (first | apply Kd.R_alloc | apply Kd.R_drewN | apply Kd.R_drew)); exact Kd.R_mono HO245.out (fun _ hk => by first | exact hk | exact hk.1 | exact hk.1.1 | exact hk.1.1.1 | exact hk.1.1.1.1 | exact hk.1.1.1.1.1 | exact hk.1.1.1.1.1.1 | exact hk.1.1.1.1.1.1.1 | exact hk.1.1.1.1.1.1.1.1 | exact .inr hk | exact .inr hk.1 | exact .inr hk.1.1 | exact .inr hk.1.1.1)), (by (with_reducible repeat (first | apply Kd.R_alloc | apply Kd.R_drewN | apply Kd.R_drew)); exact Kd.R_mono HO248.out (fun _ hk => by first | exact hk | exact hk.1 | exact hk.1.1 | exact hk.1.1.1 | exact hk.1.1.1.1 | exact hk.1.1.1.1.1 | exact hk.1.1.1.1.1.1 | exact hk.1.1.1.1.1.1.1 | exact hk.1.1.1.1.1.1.1.1 | exact .inr hk | exact .inr hk.1 | exact .inr hk.1.1 | exact .inr hk.1.1.1)), (by (with_reducible repeat (first | apply Kd.N_alloc | apply Kd.N_drewN | apply Kd.N_drew)); exact Kd.N_mono HO251.out (fun _ hk => by first | exact hk | exact hk.1 | exact hk.1.1 | exact hk.1.1.1 | exact hk.1.1.1.1 | exact hk.1.1.1.1.1 | exact hk.1.1.1.1.1.1 | exact hk.1.1.1.1.1.1.1 | exact hk.1.1.1.1.1.1.1.1 | exact .inr hk | exact .inr hk.1 | exact .inr hk.1.1 | exact .inr hk.1.1.1)), (by (with_reducible repeat (first | apply Kd.R_alloc | apply Kd.R_drewN | apply Kd.R_drew)); exact Kd.R_mono HO255.out (fun _ hk => by first | exact hk | exact hk.1 | exact hk.1.1 | exact hk.1.1.1 | exact hk.1.1.1.1 | exact hk.1.1.1.1.1 | exact hk.1.1.1.1.1.1 | exact hk.1.1.1.1.1.1.1 | exact hk.1.1.1.1.1.1.1.1 | exact .inr hk | exact .inr hk.1 | exact .inr hk.1.1 | exact .inr hk.1.1.1)), (by (with_reducible repeat (first | apply Kd.R_alloc | apply Kd.R_drewN | apply Kd.R_drew)); exact Kd.R_mono HO258.out (fun _ hk => by first | exact hk | exact hk.1 | exact hk.1.1 | exact hk.1.1.1 | exact hk.1.1.1.1 | exact hk.1.1.1.1.1 | exact hk.1.1.1.1.1.1 | exact hk.1.1.1.1.1.1.1 | exact hk.1.1.1.1.1.1.1.1 | exact .inr hk | exact .inr hk.1 | exact .inr hk.1.1 | exact .inr hk.1.1.1)), (by (with_reducible repeat (first | refine blk_drewN ?_ _ | refine blk_drew ?_ | refine blk_alloc ?_ _)); exact BK235.out), (by repeat (first | (with_reducible first | exact HB.out | apply below_alloc | apply pw_below_drewN | apply below_drew1 | refine below_set ?_ GE235.out) | exact HB.out))⟩)
    ·skip
     refine Kd.R_lit_step (Kd.int .i64) _ 3 ?hg (N := 104) ?hd (xs := ([rd ((rd_T35 l0 a1_1).f1) a1_2] : List Int)) (inner := [.int .i64 (rd ((rd_T35 l0 a1_1).f1) a1_2)]) (ok := fun _ => True) (okp := fun _ => True) ?hr ?hp (fun _ hk => hk) trivial (Below.refl _ _) (Nat.le_refl _) (by simp) ?_; (case hd => rfl); (case hg => rfl); (case hr => first | (go_simp; done) | (go_simp; rfl)); (case hp => exact (Reps.one (show Kd.M (Kd.int .i64) _ _ _ (rd ((rd_T35 l0 a1_1).f1) a1_2) [.int .i64 (rd ((rd_T35 l0 a1_1).f1) a1_2)] from rfl) (Reps.none _ _)))
     intro v257 w59 ho60 hb hg_ hnew_
     have HS6_ := (hb.cell (World.block_lt_of_cell? _ _ (hHeld.2.2.2.2.2.2.1))).trans (hHeld.2.2.2.2.2.2.1)
     have HS7_ := (hb.cell (World.block_lt_of_cell? _ _ (hHeld.2.2.2.2.2.2.2))).trans (hHeld.2.2.2.2.2.2.2)
     clear hg_ hnew_
     (first | rw [← Ny256.out] at ho60 | (simp only [Int.reduceToNat] at ho60; rw [← Ny256.out] at ho60))
     have n0_ := Aside0.mk (Kd.V_elder' (by (with_reducible repeat (first | apply Kd.V_alloc | apply Kd.V_drewN | apply Kd.V_drew)); exact HO0.out) (Kd.R_base ho60) hb)
     have n1_ := Aside0.mk (Kd.V_elder' (by (with_reducible repeat (first | apply Kd.V_alloc | apply Kd.V_drewN | apply Kd.V_drew)); exact HL236_1.out) (Kd.R_base ho60) hb)
     have n2_ := Aside0.mk (Kd.V_elder' (by (with_reducible repeat (first | apply Kd.V_alloc | apply Kd.V_drewN | apply Kd.V_drew)); exact HL237_1.out) (Kd.R_base ho60) hb)
     have n3_ := Aside0.mk (Kd.R_elder' (by (with_reducible repeat (first | apply Kd.R_alloc | apply Kd.R_drewN | apply Kd.R_drew)); exact HO242.out) (Kd.R_base ho60) hb)
     have n4_ := Aside0.mk (Kd.R_elder' (by (with_reducible repeat (first | apply Kd.R_alloc | apply Kd.R_drewN | apply Kd.R_drew)); exact HO245.out) (Kd.R_base ho60) hb)
     have n5_ := Aside0.mk (Kd.R_elder' (by (with_reducible repeat (first | apply Kd.R_alloc | apply Kd.R_drewN | apply Kd.R_drew)); exact HO248.out) (Kd.R_base ho60) hb)
     have n6_ := Aside0.mk (Kd.N_elder' (by (with_reducible repeat (first | apply Kd.N_alloc | apply Kd.N_drewN | apply Kd.N_drew)); exact HO251.out) (Kd.R_base ho60) hb)
     have n7_ := Aside0.mk (Kd.V_elder' (by (with_reducible repeat (first | apply Kd.V_alloc | apply Kd.V_drewN | apply Kd.V_drew)); exact HL252_1.out) (Kd.R_base ho60) hb)
     have n8_ := Aside0.mk (Kd.R_lower (Kd.R_new' (Kd.R_new' (Kd.R_new' (Kd.R_newM (M := fun k_ => (w.heap.size ≤ k_)) ho60 (below_size (by repeat (first | (with_reducible first | exact HB.out | apply below_alloc | apply pw_below_drewN | apply below_drew1 | refine below_set ?_ GE235.out) | exact HB.out))) (fun k_ h_ => h_)) (Kd.R_lt (by (with_reducible repeat (first | apply Kd.R_alloc | apply Kd.R_drewN | apply Kd.R_drew)); exact HO242.out))) (Kd.R_lt (by (with_reducible repeat (first | apply Kd.R_alloc | apply Kd.R_drewN | apply Kd.R_drew)); exact HO245.out))) (Kd.R_lt (by (with_reducible repeat (first | apply Kd.R_alloc | apply Kd.R_drewN | apply Kd.R_drew)); exact HO248.out))) (below_size (by repeat (first | (with_reducible first | exact HB.out | apply below_alloc | apply pw_below_drewN | apply below_drew1 | refine below_set ?_ GE235.out) | exact HB.out))))
     have n9_ := Aside0.mk (blk_below (g := gb235) (o := .cells #[.int .i64 a1_0, .int .i64 a1_1, .int .i64 a1_2, .int .i64 a1_3, .int .i64 a1_4, .int .i64 a1_5] 24 (0, 0)) (by (with_reducible repeat (first | refine blk_drewN ?_ _ | refine blk_drew ?_ | refine blk_alloc ?_ _)); exact BK235.out) hb)
     have n10_ := Aside0.mk (Kd.C_below (by repeat (first | (with_reducible exact HR252_1.out) | (with_reducible refine Kd.C_alloc ?_ _) | (with_reducible refine Kd.C_drewN ?_ _) | (with_reducible refine Kd.C_drew ?_) | exact HR252_1.out | exact (Kd.V_reads' HL252_1.out).2.2)) hb)
     have n11_ := Aside0.mk (below_step (by repeat (first | (with_reducible first | exact HB.out | apply below_alloc | apply pw_below_drewN | apply below_drew1 | refine below_set ?_ GE235.out) | exact HB.out)) hb)
     clear HO0 HL236_1 HL237_1 HO242 HO245 HO248 HO251 HL252_1 BK235 HR252_1 HB
     have HO0 := n0_; have HL236_1 := n1_; have HL237_1 := n2_; have HO242 := n3_; have HO245 := n4_; have HO248 := n5_; have HO251 := n6_; have HL252_1 := n7_; have HO258 := n8_; have BK235 := n9_; have HR252_1 := n10_; have HB := n11_
     clear n0_ n1_ n2_ n3_ n4_ n5_ n6_ n7_ n8_ n9_ n10_ n11_ hb ho60
     refine hK.out _ _ ⟨(blk_cell BK235.out 0).trans rfl, (blk_cell BK235.out 1).trans rfl, (blk_cell BK235.out 2).trans rfl, (blk_cell BK235.out 3).trans rfl, (blk_cell BK235.out 4).trans rfl, (blk_cell BK235.out 5).trans rfl, HS6_, HS7_⟩ (fun hHeld => ?_)
     clear hK K
     refine norm_ (a' := ?_) ?_ ?_
     rotate_left
     ·show Act.put _ (some 104) _ = _
      simp only [Act.put, List.setIfInBounds_toArray, List.set_cons_zero, List.set_cons_succ, i64_w, i32_w]
      rfl
     refine one_ (i := 11) (N := some 100) #[true, true, true, true, true, true, true, true, true, true, true, true, true, true, true, true, false, false, false, false] rfl rfl (one_of HT_.out (by kernel_rfl)) (by decide) (fun K hK => ?_)
     refine goes_ Try.func44 (by kernel_rfl) rfl #[.slice A252_1 ((rd_T35 t249 a1_3).f1).length c252_1, .int .i64 a1_4, .int .i64 1] (by rfl) rfl rfl (by (try simp only [List.map_toArray, List.map_cons, List.map_nil]); first | done | rfl | (simp only [List.length_drop, List.length_take]; rfl)) ?_
     with_reducible refine (haulierref36_cut.calls k _ _ ((rd_T35 t249 a1_3).f1) a1_4 1 t253 _ ?side1 ?side2 A40.out).mono ?_
     (case side1 => repeat (first | exact (by repeat (first | (with_reducible exact HR252_1.out) | (with_reducible refine Kd.C_alloc ?_ _) | (with_reducible refine Kd.C_drewN ?_ _) | (with_reducible refine Kd.C_drew ?_) | exact HR252_1.out | exact (Kd.V_reads' HL252_1.out).2.2)) | (with_reducible refine Kd.C_alloc ?_ _) | (with_reducible refine Kd.C_drewN ?_ _) | (with_reducible refine Kd.C_drew ?_)))
     (case side2 => exact HC252_1.out)
     rintro e w61 ⟨v254, rfl, ho0, hb⟩
     have HS6_ := (hb.cell (World.block_lt_of_cell? _ _ (hHeld.2.2.2.2.2.2.1))).trans (hHeld.2.2.2.2.2.2.1)
     have HS7_ := (hb.cell (World.block_lt_of_cell? _ _ (hHeld.2.2.2.2.2.2.2))).trans (hHeld.2.2.2.2.2.2.2)
     refine ⟨_, rfl, ?_⟩
     have n0_ := Aside0.mk (Kd.V_elder' (by (with_reducible repeat (first | apply Kd.V_alloc | apply Kd.V_drewN | apply Kd.V_drew)); exact HO0.out) (Kd.R_base ho0) hb)
     have n1_ := Aside0.mk (Kd.V_elder' (by (with_reducible repeat (first | apply Kd.V_alloc | apply Kd.V_drewN | apply Kd.V_drew)); exact HL236_1.out) (Kd.R_base ho0) hb)
     have n2_ := Aside0.mk (Kd.V_elder' (by (with_reducible repeat (first | apply Kd.V_alloc | apply Kd.V_drewN | apply Kd.V_drew)); exact HL237_1.out) (Kd.R_base ho0) hb)
     have n3_ := Aside0.mk (Kd.R_elder' (by (with_reducible repeat (first | apply Kd.R_alloc | apply Kd.R_drewN | apply Kd.R_drew)); exact HO242.out) (Kd.R_base ho0) hb)
     have n4_ := Aside0.mk (Kd.R_elder' (by (with_reducible repeat (first | apply Kd.R_alloc | apply Kd.R_drewN | apply Kd.R_drew)); exact HO245.out) (Kd.R_base ho0) hb)
     have n5_ := Aside0.mk (Kd.R_elder' (by (with_reducible repeat (first | apply Kd.R_alloc | apply Kd.R_drewN | apply Kd.R_drew)); exact HO248.out) (Kd.R_base ho0) hb)
     have n6_ := Aside0.mk (Kd.N_elder' (by (with_reducible repeat (first | apply Kd.N_alloc | apply Kd.N_drewN | apply Kd.N_drew)); exact HO251.out) (Kd.R_base ho0) hb)
     have n7_ := Aside0.mk (Kd.V_elder' (by (with_reducible repeat (first | apply Kd.V_alloc | apply Kd.V_drewN | apply Kd.V_drew)); exact HL252_1.out) (Kd.R_base ho0) hb)
     have n8_ := Aside0.mk (Kd.R_elder' (by (with_reducible repeat (first | apply Kd.R_alloc | apply Kd.R_drewN | apply Kd.R_drew)); exact HO258.out) (Kd.R_base ho0) hb)
     have n9_ := Aside0.mk (Kd.R_lower (Kd.R_new' (Kd.R_new' (Kd.R_new' (Kd.R_new' (Kd.R_newM (M := fun k_ => (w.heap.size ≤ k_)) ho0 (below_size (by repeat (first | (with_reducible first | exact HB.out | apply below_alloc | apply pw_below_drewN | apply below_drew1 | refine below_set ?_ GE235.out) | exact HB.out))) (fun k_ h_ => h_)) (Kd.R_lt (by (with_reducible repeat (first | apply Kd.R_alloc | apply Kd.R_drewN | apply Kd.R_drew)); exact HO242.out))) (Kd.R_lt (by (with_reducible repeat (first | apply Kd.R_alloc | apply Kd.R_drewN | apply Kd.R_drew)); exact HO245.out))) (Kd.R_lt (by (with_reducible repeat (first | apply Kd.R_alloc | apply Kd.R_drewN | apply Kd.R_drew)); exact HO248.out))) (Kd.R_lt (by (with_reducible repeat (first | apply Kd.R_alloc | apply Kd.R_drewN | apply Kd.R_drew)); exact HO258.out))) (below_size (by repeat (first | (with_reducible first | exact HB.out | apply below_alloc | apply pw_below_drewN | apply below_drew1 | refine below_set ?_ GE235.out) | exact HB.out))))
     have n10_ := Aside0.mk (blk_below (g := gb235) (o := .cells #[.int .i64 a1_0, .int .i64 a1_1, .int .i64 a1_2, .int .i64 a1_3, .int .i64 a1_4, .int .i64 a1_5] 24 (0, 0)) (by (with_reducible repeat (first | refine blk_drewN ?_ _ | refine blk_drew ?_ | refine blk_alloc ?_ _)); exact BK235.out) hb)
     have n11_ := Aside0.mk (Kd.C_below (by repeat (first | (with_reducible exact HR252_1.out) | (with_reducible refine Kd.C_alloc ?_ _) | (with_reducible refine Kd.C_drewN ?_ _) | (with_reducible refine Kd.C_drew ?_) | exact HR252_1.out | exact (Kd.V_reads' HL252_1.out).2.2)) hb)
     have n12_ := Aside0.mk (below_step (by repeat (first | (with_reducible first | exact HB.out | apply below_alloc | apply pw_below_drewN | apply below_drew1 | refine below_set ?_ GE235.out) | exact HB.out)) hb)
     clear HO0 HL236_1 HL237_1 HO242 HO245 HO248 HO251 HL252_1 HO258 BK235 HR252_1 HB
     have HO0 := n0_; have HL236_1 := n1_; have HL237_1 := n2_; have HO242 := n3_; have HO245 := n4_; have HO248 := n5_; have HO251 := n6_; have HL252_1 := n7_; have HO258 := n8_; have HO255 := n9_; have BK235 := n10_; have HR252_1 := n11_; have HB := n12_
     clear n0_ n1_ n2_ n3_ n4_ n5_ n6_ n7_ n8_ n9_ n10_ n11_ n12_
     try clear hb; try clear hb2; try clear hk; try clear hi; try clear ho0
     refine hK.out _ _ ⟨(blk_cell BK235.out 0).trans rfl, (blk_cell BK235.out 1).trans rfl, (blk_cell BK235.out 2).trans rfl, (blk_cell BK235.out 3).trans rfl, (blk_cell BK235.out 4).trans rfl, (blk_cell BK235.out 5).trans rfl, HS6_, HS7_⟩ (fun hHeld => ?_)
     clear hK K
     refine norm_ (a' := ?_) ?_ ?_
     rotate_left
     ·show Act.put _ (some 100) _ = _
      simp only [Act.put, List.setIfInBounds_toArray, List.set_cons_zero, List.set_cons_succ, i64_w, i32_w]
      rfl
     exact norm_ (by simp only [putAll, Act.put, List.setIfInBounds_toArray, List.set_cons_zero, List.set_cons_succ]) (hCont (v254, v257) _ ⟨hHeld, (by (with_reducible repeat (first | apply Kd.V_alloc | apply Kd.V_drewN | apply Kd.V_drew)); exact Kd.V_mono HL236_1.out (fun _ hk => by first | exact hk | exact hk.1 | exact hk.1.1 | exact hk.1.1.1 | exact hk.1.1.1.1 | exact hk.1.1.1.1.1 | exact hk.1.1.1.1.1.1 | exact hk.1.1.1.1.1.1.1 | exact hk.1.1.1.1.1.1.1.1 | exact .inr hk | exact .inr hk.1 | exact .inr hk.1.1 | exact .inr hk.1.1.1)), (by (with_reducible repeat (first | apply Kd.V_alloc | apply Kd.V_drewN | apply Kd.V_drew)); exact Kd.V_mono HL237_1.out (fun _ hk => by first | exact hk | exact hk.1 | exact hk.1.1 | exact hk.1.1.1 | exact hk.1.1.1.1 | exact hk.1.1.1.1.1 | exact hk.1.1.1.1.1.1 | exact hk.1.1.1.1.1.1.1 | exact hk.1.1.1.1.1.1.1.1 | exact .inr hk | exact .inr hk.1 | exact .inr hk.1.1 | exact .inr hk.1.1.1)), (by (with_reducible repeat (first | apply Kd.V_alloc | apply Kd.V_drewN | apply Kd.V_drew)); exact Kd.V_mono HL252_1.out (fun _ hk => by first | exact hk | exact hk.1 | exact hk.1.1 | exact hk.1.1.1 | exact hk.1.1.1.1 | exact hk.1.1.1.1.1 | exact hk.1.1.1.1.1.1 | exact hk.1.1.1.1.1.1.1 | exact hk.1.1.1.1.1.1.1.1 | exact .inr hk | exact .inr hk.1 | exact .inr hk.1.1 | exact .inr hk.1.1.1)), (by (with_reducible repeat (first | apply Kd.V_alloc | apply Kd.V_drewN | apply Kd.V_drew)); exact Kd.V_mono HO0.out (fun _ hk => by first | exact hk | exact hk.1 | exact hk.1.1 | exact hk.1.1.1 | exact hk.1.1.1.1 | exact hk.1.1.1.1.1 | exact hk.1.1.1.1.1.1 | exact hk.1.1.1.1.1.1.1 | exact hk.1.1.1.1.1.1.1.1 | exact .inr hk | exact .inr hk.1 | exact .inr hk.1.1 | exact .inr hk.1.1.1)), (by (with_reducible repeat (first | apply Kd.R_alloc | apply Kd.R_drewN | apply Kd.R_drew)); exact Kd.R_mono HO242.out (fun _ hk => by first | exact hk | exact hk.1 | exact hk.1.1 | exact hk.1.1.1 | exact hk.1.1.1.1 | exact hk.1.1.1.1.1 | exact hk.1.1.1.1.1.1 | exact hk.1.1.1.1.1.1.1 | exact hk.1.1.1.1.1.1.1.1 | exact .inr hk | exact .inr hk.1 | exact .inr hk.1.1 | exact .inr hk.1.1.1)), (by (with_reducible repeat (first | apply Kd.R_alloc | apply Kd.R_drewN | apply Kd.R_drew)); exact Kd.R_mono HO245.out (fun _ hk => by first | exact hk | exact hk.1 | exact hk.1.1 | exact hk.1.1.1 | exact hk.1.1.1.1 | exact hk.1.1.1.1.1 | exact hk.1.1.1.1.1.1 | exact hk.1.1.1.1.1.1.1 | exact hk.1.1.1.1.1.1.1.1 | exact .inr hk | exact .inr hk.1 | exact .inr hk.1.1 | exact .inr hk.1.1.1)), (by (with_reducible repeat (first | apply Kd.R_alloc | apply Kd.R_drewN | apply Kd.R_drew)); exact Kd.R_mono HO248.out (fun _ hk => by first | exact hk | exact hk.1 | exact hk.1.1 | exact hk.1.1.1 | exact hk.1.1.1.1 | exact hk.1.1.1.1.1 | exact hk.1.1.1.1.1.1 | exact hk.1.1.1.1.1.1.1 | exact hk.1.1.1.1.1.1.1.1 | exact .inr hk | exact .inr hk.1 | exact .inr hk.1.1 | exact .inr hk.1.1.1)), (by (with_reducible repeat (first | apply Kd.N_alloc | apply Kd.N_drewN | apply Kd.N_drew)); exact Kd.N_mono HO251.out (fun _ hk => by first | exact hk | exact hk.1 | exact hk.1.1 | exact hk.1.1.1 | exact hk.1.1.1.1 | exact hk.1.1.1.1.1 | exact hk.1.1.1.1.1.1 | exact hk.1.1.1.1.1.1.1 | exact hk.1.1.1.1.1.1.1.1 | exact .inr hk | exact .inr hk.1 | exact .inr hk.1.1 | exact .inr hk.1.1.1)), (by (with_reducible repeat (first | apply Kd.R_alloc | apply Kd.R_drewN | apply Kd.R_drew)); exact Kd.R_mono HO255.out (fun _ hk => by first | exact hk | exact hk.1 | exact hk.1.1 | exact hk.1.1.1 | exact hk.1.1.1.1 | exact hk.1.1.1.1.1 | exact hk.1.1.1.1.1.1 | exact hk.1.1.1.1.1.1.1 | exact hk.1.1.1.1.1.1.1.1 | exact .inr hk | exact .inr hk.1 | exact .inr hk.1.1 | exact .inr hk.1.1.1)), (by (with_reducible repeat (first | apply Kd.R_alloc | apply Kd.R_drewN | apply Kd.R_drew)); exact Kd.R_mono HO258.out (fun _ hk => by first | exact hk | exact hk.1 | exact hk.1.1 | exact hk.1.1.1 | exact hk.1.1.1.1 | exact hk.1.1.1.1.1 | exact hk.1.1.1.1.1.1 | exact hk.1.1.1.1.1.1.1 | exact hk.1.1.1.1.1.1.1.1 | exact .inr hk | exact .inr hk.1 | exact .inr hk.1.1 | exact .inr hk.1.1.1)), (by (with_reducible repeat (first | refine blk_drewN ?_ _ | refine blk_drew ?_ | refine blk_alloc ?_ _)); exact BK235.out), (by repeat (first | (with_reducible first | exact HB.out | apply below_alloc | apply pw_below_drewN | apply below_drew1 | refine below_set ?_ GE235.out) | exact HB.out))⟩)
   rintro ⟨v254, v257⟩ w62 ⟨hS_, h0_, h1_, h2_, h3_, h4_, h5_, h6_, h7_, h8_, h9_, h10_, h11_⟩
   have n0_ : Aside0 (Kd.V (Kd.int .i64) 3 w62 w.heap.size (fun k_ => (P0_ k_ ∨ w.heap.size ≤ k_) ∧ k_ ≠ gb235) (.slice (some ad238) ((rd_T35 l0 a1_1).f1).length c236_1) ((rd_T35 l0 a1_1).f1)) := ⟨h0_⟩
   have n1_ : Aside0 (Kd.V (Kd.int .i64) 3 w62 w.heap.size (fun k_ => (P0_ k_ ∨ w.heap.size ≤ k_) ∧ k_ ≠ gb235) (.slice (some ad239) ((rd_T35 l0 a1_3).f1).length c237_1) ((rd_T35 l0 a1_3).f1)) := ⟨h1_⟩
   have n2_ : Aside0 (Kd.V (Kd.int .i64) 3 w62 w.heap.size (fun k_ => (P0_ k_ ∨ w.heap.size ≤ k_) ∧ k_ ≠ gb235) (.slice A252_1 ((rd_T35 t249 a1_3).f1).length c252_1) ((rd_T35 t249 a1_3).f1)) := ⟨h2_⟩
   have n3_ : Aside0 (Kd.V k35 35 w62 w.heap.size (fun k_ => (P0_ k_ ∨ w.heap.size ≤ k_) ∧ k_ ≠ gb235) (.slice (some ad236) l0.length c0) l0) := ⟨h3_⟩
   have n4_ : Aside0 (Kd.R (Kd.int .i64) 3 w62 w.heap.size (fun k_ => (w.heap.size ≤ k_)) v241 t240) := ⟨h4_⟩
   have n5_ : Aside0 (Kd.R (Kd.int .i64) 3 w62 w.heap.size (fun k_ => (w.heap.size ≤ k_)) v244 y243) := ⟨h5_⟩
   have n6_ : Aside0 (Kd.R (Kd.int .i64) 3 w62 w.heap.size (fun k_ => (w.heap.size ≤ k_)) v247 t246) := ⟨h6_⟩
   have n7_ : Aside0 (Kd.N k35 35 w62 w.heap.size (fun k_ => (P0_ k_ ∨ w.heap.size ≤ k_) ∧ k_ ≠ gb235) (.slice (some ad252) t249.length co57) t249) := ⟨h7_⟩
   have n8_ : Aside0 (Kd.R (Kd.int .i64) 3 w62 w.heap.size (fun k_ => (w.heap.size ≤ k_)) v254 t253) := ⟨h8_⟩
   have n9_ : Aside0 (Kd.R (Kd.int .i64) 3 w62 w.heap.size (fun k_ => (w.heap.size ≤ k_)) v257 y256) := ⟨h9_⟩
   have n10_ : Aside0 (w62.heap[gb235]? = some (.cells #[.int .i64 a1_0, .int .i64 a1_1, .int .i64 a1_2, .int .i64 a1_3, .int .i64 a1_4, .int .i64 a1_5] 24 (0, 0))) := ⟨h10_⟩
   have n11_ : Aside0 (Below w.heap.size w w62) := ⟨h11_⟩
   clear HO0 HL236_1 HL237_1 HO242 HO245 HO248 HO251 BK235 HB h0_ h1_ h2_ h3_ h4_ h5_ h6_ h7_ h8_ h9_ h10_ h11_
   have HL236_1 := n0_; have HL237_1 := n1_; have HL252_1 := n2_; have HO0 := n3_; have HO242 := n4_; have HO245 := n5_; have HO248 := n6_; have HO251 := n7_; have HO255 := n8_; have HO258 := n9_; have BK235 := n10_; have HB := n11_
   clear n0_ n1_ n2_ n3_ n4_ n5_ n6_ n7_ n8_ n9_ n10_ n11_
   have hHeld : w62.cell? ⟨gb235, 0, none⟩ = some (.int .i64 a1_0) ∧ w62.cell? ⟨gb235, 1, none⟩ = some (.int .i64 a1_1) ∧ w62.cell? ⟨gb235, 2, none⟩ = some (.int .i64 a1_2) ∧ w62.cell? ⟨gb235, 3, none⟩ = some (.int .i64 a1_3) ∧ w62.cell? ⟨gb235, 4, none⟩ = some (.int .i64 a1_4) ∧ w62.cell? ⟨gb235, 5, none⟩ = some (.int .i64 a1_5) ∧ w62.cell? (ad252.add ((a1_3).toNat * 2)) = some (.int .i64 ((rd_T35 t249 a1_3).f0)) ∧ w62.cell? ⟨(ad252.add ((a1_3).toNat * 2)).block, (ad252.add ((a1_3).toNat * 2)).off + 1, none⟩ = some (.slice A252_1 ((rd_T35 t249 a1_3).f1).length c252_1) := hS_
   obtain ⟨Ao63, co63, eo63⟩ := Kd.R_slice HO255.out
   (first | subst eo63 | (injection eo63 with f1_ f2_ f3_; have f4_ := f1_.symm; have f5_ := f3_.symm; clear f1_ f2_ f3_; subst f4_; subst f5_))
   obtain ⟨Ao64, co64, eo64⟩ := Kd.R_slice HO258.out
   (first | subst eo64 | (injection eo64 with f1_ f2_ f3_; have f4_ := f1_.symm; have f5_ := f3_.symm; clear f1_ f2_ f3_; subst f4_; subst f5_))
   refine norm_ (a' := ?_) ?_ ?_
   rotate_left
   ·simp only [putAll, Act.put, List.setIfInBounds_toArray, List.set_cons_zero, List.set_cons_succ]
    rfl
   refine one_ (i := 16) (N := some 105) #[true, true, true, true, true, true, true, true, true, true, true, true, true, true, true, true, true, false, false, false] rfl rfl (one_of HT_.out (by kernel_rfl)) (by decide) (fun K hK => ?_)
   refine goes_ Try.func45 (by kernel_rfl) rfl #[.slice Ao63 t253.length co63, .int .i64 a1_4, .slice Ao64 y256.length co64] (by rfl) rfl rfl (by (try simp only [List.map_toArray, List.map_cons, List.map_nil]); first | done | rfl | (simp only [List.length_drop, List.length_take]; rfl)) ?_
   with_reducible refine (haulierref36_put.calls _ _ t253 a1_4 _ _ y256 t259 _ ?side1 ?side2 ?side3 ?side4 A41.out).mono ?_
   (case side1 => repeat (first | exact (Kd.R_reads' HO255.out).2.2 | (with_reducible refine Kd.C_alloc ?_ _) | (with_reducible refine Kd.C_drewN ?_ _) | (with_reducible refine Kd.C_drew ?_)))
   (case side2 => exact (Kd.R_reads' HO255.out).2.1)
   (case side3 => repeat (first | exact (Kd.R_reads' HO258.out).2.2 | (with_reducible refine Kd.C_alloc ?_ _) | (with_reducible refine Kd.C_drewN ?_ _) | (with_reducible refine Kd.C_drew ?_)))
   (case side4 => exact (Kd.R_reads' HO258.out).2.1)
   rintro e w65 ⟨v260, rfl, ho0, hb⟩
   have HS6_ := (hb.cell (World.block_lt_of_cell? _ _ (hHeld.2.2.2.2.2.2.1))).trans (hHeld.2.2.2.2.2.2.1)
   have HS7_ := (hb.cell (World.block_lt_of_cell? _ _ (hHeld.2.2.2.2.2.2.2))).trans (hHeld.2.2.2.2.2.2.2)
   refine ⟨_, rfl, ?_⟩
   have n0_ := Aside0.mk (Kd.V_elder' (by (with_reducible repeat (first | apply Kd.V_alloc | apply Kd.V_drewN | apply Kd.V_drew)); exact HO0.out) (Kd.R_base ho0) hb)
   have n1_ := Aside0.mk (Kd.V_elder' (by (with_reducible repeat (first | apply Kd.V_alloc | apply Kd.V_drewN | apply Kd.V_drew)); exact HL236_1.out) (Kd.R_base ho0) hb)
   have n2_ := Aside0.mk (Kd.V_elder' (by (with_reducible repeat (first | apply Kd.V_alloc | apply Kd.V_drewN | apply Kd.V_drew)); exact HL237_1.out) (Kd.R_base ho0) hb)
   have n3_ := Aside0.mk (Kd.R_elder' (by (with_reducible repeat (first | apply Kd.R_alloc | apply Kd.R_drewN | apply Kd.R_drew)); exact HO242.out) (Kd.R_base ho0) hb)
   have n4_ := Aside0.mk (Kd.R_elder' (by (with_reducible repeat (first | apply Kd.R_alloc | apply Kd.R_drewN | apply Kd.R_drew)); exact HO245.out) (Kd.R_base ho0) hb)
   have n5_ := Aside0.mk (Kd.R_elder' (by (with_reducible repeat (first | apply Kd.R_alloc | apply Kd.R_drewN | apply Kd.R_drew)); exact HO248.out) (Kd.R_base ho0) hb)
   have n6_ := Aside0.mk (Kd.N_elder' (by (with_reducible repeat (first | apply Kd.N_alloc | apply Kd.N_drewN | apply Kd.N_drew)); exact HO251.out) (Kd.R_base ho0) hb)
   have n7_ := Aside0.mk (Kd.V_elder' (by (with_reducible repeat (first | apply Kd.V_alloc | apply Kd.V_drewN | apply Kd.V_drew)); exact HL252_1.out) (Kd.R_base ho0) hb)
   have n8_ := Aside0.mk (Kd.R_elder' (by (with_reducible repeat (first | apply Kd.R_alloc | apply Kd.R_drewN | apply Kd.R_drew)); exact HO255.out) (Kd.R_base ho0) hb)
   have n9_ := Aside0.mk (Kd.R_elder' (by (with_reducible repeat (first | apply Kd.R_alloc | apply Kd.R_drewN | apply Kd.R_drew)); exact HO258.out) (Kd.R_base ho0) hb)
   have n10_ := Aside0.mk (Kd.R_lower (Kd.R_new' (Kd.R_new' (Kd.R_new' (Kd.R_new' (Kd.R_new' (Kd.R_newM (M := fun k_ => (w.heap.size ≤ k_)) ho0 (below_size (by repeat (first | (with_reducible first | exact HB.out | apply below_alloc | apply pw_below_drewN | apply below_drew1 | refine below_set ?_ GE235.out) | exact HB.out))) (fun k_ h_ => h_)) (Kd.R_lt (by (with_reducible repeat (first | apply Kd.R_alloc | apply Kd.R_drewN | apply Kd.R_drew)); exact HO242.out))) (Kd.R_lt (by (with_reducible repeat (first | apply Kd.R_alloc | apply Kd.R_drewN | apply Kd.R_drew)); exact HO245.out))) (Kd.R_lt (by (with_reducible repeat (first | apply Kd.R_alloc | apply Kd.R_drewN | apply Kd.R_drew)); exact HO248.out))) (Kd.R_lt (by (with_reducible repeat (first | apply Kd.R_alloc | apply Kd.R_drewN | apply Kd.R_drew)); exact HO255.out))) (Kd.R_lt (by (with_reducible repeat (first | apply Kd.R_alloc | apply Kd.R_drewN | apply Kd.R_drew)); exact HO258.out))) (below_size (by repeat (first | (with_reducible first | exact HB.out | apply below_alloc | apply pw_below_drewN | apply below_drew1 | refine below_set ?_ GE235.out) | exact HB.out))))
   have n11_ := Aside0.mk (blk_below (g := gb235) (o := .cells #[.int .i64 a1_0, .int .i64 a1_1, .int .i64 a1_2, .int .i64 a1_3, .int .i64 a1_4, .int .i64 a1_5] 24 (0, 0)) (by (with_reducible repeat (first | refine blk_drewN ?_ _ | refine blk_drew ?_ | refine blk_alloc ?_ _)); exact BK235.out) hb)
   have n12_ := Aside0.mk (below_step (by repeat (first | (with_reducible first | exact HB.out | apply below_alloc | apply pw_below_drewN | apply below_drew1 | refine below_set ?_ GE235.out) | exact HB.out)) hb)
   clear HO0 HL236_1 HL237_1 HO242 HO245 HO248 HO251 HL252_1 HO255 HO258 BK235 HB
   have HO0 := n0_; have HL236_1 := n1_; have HL237_1 := n2_; have HO242 := n3_; have HO245 := n4_; have HO248 := n5_; have HO251 := n6_; have HL252_1 := n7_; have HO255 := n8_; have HO258 := n9_; have HO261 := n10_; have BK235 := n11_; have HB := n12_
   clear n0_ n1_ n2_ n3_ n4_ n5_ n6_ n7_ n8_ n9_ n10_ n11_ n12_
   try clear hb; try clear hb2; try clear hk; try clear hi; try clear ho0
   obtain ⟨Ao66, co66, eo66⟩ := Kd.R_slice HO261.out
   (first | subst eo66 | (injection eo66 with f1_ f2_ f3_; have f4_ := f1_.symm; have f5_ := f3_.symm; clear f1_ f2_ f3_; subst f4_; subst f5_))
   refine hK.out _ _ ⟨(blk_cell BK235.out 0).trans rfl, (blk_cell BK235.out 1).trans rfl, (blk_cell BK235.out 2).trans rfl, (blk_cell BK235.out 3).trans rfl, (blk_cell BK235.out 4).trans rfl, (blk_cell BK235.out 5).trans rfl, HS6_, HS7_⟩ (fun hHeld => ?_)
   clear hK K
   refine norm_ (a' := ?_) ?_ ?_
   rotate_left
   ·show Act.put _ (some 105) _ = _
    simp only [Act.put, List.setIfInBounds_toArray, List.set_cons_zero, List.set_cons_succ, i64_w, i32_w]
    rfl
   refine one_ (i := 17) (N := some 106) #[true, true, true, true, true, true, true, true, true, true, true, true, true, true, true, true, true, true, false, false] rfl rfl (one_of HT_.out (by kernel_rfl)) (by decide) (fun K hK => ?_)
   refine goes_ Try.func43 (by kernel_rfl) rfl #[.slice (some ad252) t249.length co57, .int .i64 a1_3, .slice Ao66 t259.length co66] (by rfl) rfl rfl (by (try simp only [List.map_toArray, List.map_cons, List.map_nil]); first | done | rfl | (simp only [List.length_drop, List.length_take]; rfl)) ?_
   with_reducible refine (haulierref36_with.calls k (fun k_ => (P0_ k_ ∨ w.heap.size ≤ k_) ∧ k_ ≠ gb235) _ _ t249 a1_3 (fun k_ => some k_ = (.slice Ao66 t259.length co66 : Value).ownBlock) _ _ t259 t262 _ ?side1 ?side2 A42.out).mono ?_
   (case side1 => exact Kd.N_V (Kd.N_mono HO251.out (fun _ hk => by first | exact hk | exact hk.1 | exact hk.1.1)))
   (case side2 => exact Kd.R_V (Kd.R_tight rfl (Kd.R_types (Kd.R_apart' (HO261.out) (Kd.N_typed HO251.out) (by decide)) BK235.out (by decide))))
   rintro e w67 ⟨v263, rfl, ho0, hb⟩
   have HS6_ := (hb.cell (World.block_lt_of_cell? _ _ (hHeld.2.2.2.2.2.2.1))).trans (hHeld.2.2.2.2.2.2.1)
   have HS7_ := (hb.cell (World.block_lt_of_cell? _ _ (hHeld.2.2.2.2.2.2.2))).trans (hHeld.2.2.2.2.2.2.2)
   refine ⟨_, rfl, ?_⟩
   have n0_ := Aside0.mk (Kd.V_elder' (by (with_reducible repeat (first | apply Kd.V_alloc | apply Kd.V_drewN | apply Kd.V_drew)); exact HO0.out) (Kd.N_base ho0) hb)
   have n1_ := Aside0.mk (Kd.V_elder' (by (with_reducible repeat (first | apply Kd.V_alloc | apply Kd.V_drewN | apply Kd.V_drew)); exact HL236_1.out) (Kd.N_base ho0) hb)
   have n2_ := Aside0.mk (Kd.V_elder' (by (with_reducible repeat (first | apply Kd.V_alloc | apply Kd.V_drewN | apply Kd.V_drew)); exact HL237_1.out) (Kd.N_base ho0) hb)
   have n3_ := Aside0.mk (Kd.R_below (by (with_reducible repeat (first | apply Kd.R_alloc | apply Kd.R_drewN | apply Kd.R_drew)); exact HO242.out) hb)
   have n4_ := Aside0.mk (Kd.R_below (by (with_reducible repeat (first | apply Kd.R_alloc | apply Kd.R_drewN | apply Kd.R_drew)); exact HO245.out) hb)
   have n5_ := Aside0.mk (Kd.R_below (by (with_reducible repeat (first | apply Kd.R_alloc | apply Kd.R_drewN | apply Kd.R_drew)); exact HO248.out) hb)
   have n6_ := Aside0.mk (Kd.N_elder' (by (with_reducible repeat (first | apply Kd.N_alloc | apply Kd.N_drewN | apply Kd.N_drew)); exact HO251.out) (Kd.N_base ho0) hb)
   have n7_ := Aside0.mk (Kd.V_elder' (by (with_reducible repeat (first | apply Kd.V_alloc | apply Kd.V_drewN | apply Kd.V_drew)); exact HL252_1.out) (Kd.N_base ho0) hb)
   have n8_ := Aside0.mk (Kd.R_below (by (with_reducible repeat (first | apply Kd.R_alloc | apply Kd.R_drewN | apply Kd.R_drew)); exact HO255.out) hb)
   have n9_ := Aside0.mk (Kd.R_below (by (with_reducible repeat (first | apply Kd.R_alloc | apply Kd.R_drewN | apply Kd.R_drew)); exact HO258.out) hb)
   have n10_ := Aside0.mk (Kd.R_below (by (with_reducible repeat (first | apply Kd.R_alloc | apply Kd.R_drewN | apply Kd.R_drew)); exact HO261.out) hb)
   have n11_ := Aside0.mk (Kd.N_lower (Kd.N_mono (ok' := fun k_ => (P0_ k_ ∨ w.heap.size ≤ k_) ∧ k_ ≠ gb235) ho0 (fun k_ hk_ => Or.elim hk_ (fun hs_ => Or.elim hs_ (fun hs_ => by first | exact hs_ | exact hs_.1 | exact hs_.1.1 | exact hs_.1.1.1 | exact hs_.1.1.1.1 | exact hs_.1.1.1.1.1 | exact hs_.1.1.1.1.1.1 | exact hs_.1.1.1.1.1.1.1 | exact hs_.1.1.1.1.1.1.1.1) (fun hs_ => by have h_ := (Kd.R_types (Kd.R_apart' (HO261.out) (Kd.N_typed HO251.out) (by decide)) BK235.out (by decide)).1 k_ hs_.symm; exact ⟨.inr (by first | exact h_.1 | exact h_.1.1 | exact h_.1.1.1 | exact h_.1.1.1.1 | exact h_.1.1.1.1.1 | exact h_.1.1.1.1.1.1 | exact h_.1.1.1.1.1.1.1 | exact h_.1.1.1.1.1.1.1.1 | exact h_.1.1.1.1.1.1.1.1.1), h_.2⟩)) (fun hn_ => ⟨.inr (Nat.le_trans (below_size (by repeat (first | (with_reducible first | exact HB.out | apply below_alloc | apply pw_below_drewN | apply below_drew1 | refine below_set ?_ GE235.out) | exact HB.out))) hn_), (Kd.freshB (g := gb235) (o := .cells #[.int .i64 a1_0, .int .i64 a1_1, .int .i64 a1_2, .int .i64 a1_3, .int .i64 a1_4, .int .i64 a1_5] 24 (0, 0)) (by (with_reducible repeat (first | refine blk_drewN ?_ _ | refine blk_drew ?_ | refine blk_alloc ?_ _)); exact BK235.out) k_ hn_)⟩))) (below_size (by repeat (first | (with_reducible first | exact HB.out | apply below_alloc | apply pw_below_drewN | apply below_drew1 | refine below_set ?_ GE235.out) | exact HB.out))))
   have n12_ := Aside0.mk (blk_below (g := gb235) (o := .cells #[.int .i64 a1_0, .int .i64 a1_1, .int .i64 a1_2, .int .i64 a1_3, .int .i64 a1_4, .int .i64 a1_5] 24 (0, 0)) (by (with_reducible repeat (first | refine blk_drewN ?_ _ | refine blk_drew ?_ | refine blk_alloc ?_ _)); exact BK235.out) hb)
   have n13_ := Aside0.mk (below_step (by repeat (first | (with_reducible first | exact HB.out | apply below_alloc | apply pw_below_drewN | apply below_drew1 | refine below_set ?_ GE235.out) | exact HB.out)) hb)
   clear HO0 HL236_1 HL237_1 HO242 HO245 HO248 HO251 HL252_1 HO255 HO258 HO261 BK235 HB
   have HO0 := n0_; have HL236_1 := n1_; have HL237_1 := n2_; have HO242 := n3_; have HO245 := n4_; have HO248 := n5_; have HO251 := n6_; have HL252_1 := n7_; have HO255 := n8_; have HO258 := n9_; have HO261 := n10_; have HO264 := n11_; have BK235 := n12_; have HB := n13_
   clear n0_ n1_ n2_ n3_ n4_ n5_ n6_ n7_ n8_ n9_ n10_ n11_ n12_ n13_
   try clear hb; try clear hb2; try clear hk; try clear hi; try clear ho0
   refine hK.out _ _ ⟨(blk_cell BK235.out 0).trans rfl, (blk_cell BK235.out 1).trans rfl, (blk_cell BK235.out 2).trans rfl, (blk_cell BK235.out 3).trans rfl, (blk_cell BK235.out 4).trans rfl, (blk_cell BK235.out 5).trans rfl, HS6_, HS7_⟩ (fun hHeld => ?_)
   clear hK K
   refine norm_ (a' := ?_) ?_ ?_
   rotate_left
   ·show Act.put _ (some 106) _ = _
    simp only [Act.put, List.setIfInBounds_toArray, List.set_cons_zero, List.set_cons_succ, i64_w, i32_w]
    rfl
   refine pure_ (i := 18) (N := some 4) (v := ?_) (a' := ?_) #[true, true, true, true, true, true, true, true, true, true, true, true, true, true, true, true, true, true, true, false] rfl rfl (any_of HT_.out (by kernel_rfl)) (fun _ _ _ h => h) (Or.inl ⟨by rfl, ?_⟩) ?_ ?_
   rotate_left
   ·intro w'
    go_simp
    with_reducible rfl
   rotate_left
   ·simp only [Act.put, List.setIfInBounds_toArray, List.set_cons_zero, List.set_cons_succ, i64_w, i32_w]
    rfl
   refine pure_ (i := 19) (N := some 5) (v := ?_) (a' := ?_) #[true, true, true, true, true, true, true, true, true, true, true, true, true, true, true, true, true, true, true, true] rfl rfl (any_of HT_.out (by kernel_rfl)) (fun _ _ _ h => h) (Or.inl ⟨by rfl, ?_⟩) ?_ ?_
   rotate_left
   ·intro w'
    go_simp
    with_reducible rfl
   rotate_left
   ·simp only [Act.put, List.setIfInBounds_toArray, List.set_cons_zero, List.set_cons_succ, i64_w, i32_w]
    rfl
   refine done_ (done_of HT_.out (by kernel_rfl)) ?_
   try go_wp2
   go_ret2
   exact ⟨_, by first | rfl | (simp [errW_none, errW_some] <;> rfl) | (simp [*, errW_none, errW_some] <;> rfl), by (with_reducible repeat (first | apply Kd.N_alloc | apply Kd.N_drewN | apply Kd.N_drew)); exact Kd.N_mono HO264.out (fun _ hk => by first | exact hk | exact hk.1 | exact hk.1.1 | exact hk.1.1.1 | exact hk.1.1.1.1 | exact hk.1.1.1.1.1 | exact hk.1.1.1.1.1.1 | exact hk.1.1.1.1.1.1.1 | exact hk.1.1.1.1.1.1.1.1 | exact .inr hk | exact .inr hk.1 | exact .inr hk.1.1 | exact .inr hk.1.1.1), by repeat (first | (with_reducible first | exact HB.out | apply below_alloc | apply pw_below_drewN | apply below_drew1 | refine below_set ?_ GE235.out) | exact HB.out)⟩
set_option maxHeartbeats 8000000 in
set_option maxRecDepth 100000 in
theorem haulierref36_exchange.calls (k : Nat) (P0_ : Nat → Prop) (A0 : Option Addr) (c0 : Nat) (l0 : List (S35)) (a1_0 : Int) (a1_1 : Int) (a1_2 : Int) (a1_3 : Int) (a1_4 : Int) (a1_5 : Int) (r1 : List (S35)) (r2 : Bool) (w : World) (hs0 : Kd.V k35 35 w w.heap.size (fun k_ => P0_ k_) (.slice A0 l0.length c0) l0) (h : haulierref36_exchange.f k l0 a1_0 a1_1 a1_2 a1_3 a1_4 a1_5 = some (r1, r2)) :
    Calls Try.prog 34 #[.slice A0 l0.length c0, .agg #[.int .i64 a1_0, .int .i64 a1_1, .int .i64 a1_2, .int .i64 a1_3, .int .i64 a1_4, .int .i64 a1_5]] w fun e w' => ∃ v0_ : Value, e = .returned (.tuple #[v0_, .bool r2]) ∧ Kd.N k35 35 w' w.heap.size (fun k_ => (P0_ k_ ∨ w.heap.size ≤ k_)) v0_ r1 ∧ Below w.heap.size w w' := by
  have hu24 := Try.underlying24
  have HO0 := Aside0.mk (show Kd.V k35 35 w w.heap.size (fun k_ => (P0_ k_ ∨ w.heap.size ≤ k_)) (.slice A0 l0.length c0) l0 from Kd.V_mono hs0 (fun k_ hk => .inl hk))
  have HB := Aside0.mk (Below.refl w.heap.size w)
  have H : (if 0 ≤ a1_1 then (if a1_1 < (l0.length : Int) then (if 0 ≤ a1_3 then (if a1_3 < (l0.length : Int) then (if a1_1 > a1_3 then (some (([] : List (S35)), false)) else (if a1_1 = a1_3 then (if a1_2 ≥ a1_4 then (some (([] : List (S35)), false)) else (if a1_2 < 0 then (some (([] : List (S35)), false)) else (if a1_2 ≥ (((rd_T35 l0 a1_1).f1).length : Int) then (some (([] : List (S35)), false)) else (if a1_4 < 0 then (some (([] : List (S35)), false)) else (if a1_4 ≥ (((rd_T35 l0 a1_3).f1).length : Int) then (some (([] : List (S35)), false)) else (if 0 ≤ a1_2 then (if a1_2 < (((rd_T35 l0 a1_1).f1).length : Int) then (if 0 ≤ a1_4 then (if a1_4 < (((rd_T35 l0 a1_3).f1).length : Int) then ((haulierref36_cut.f k ((rd_T35 l0 a1_1).f1) a1_2 1).bind fun t240 => ((haulierref36_put.f t240 a1_2 (([rd ((rd_T35 l0 a1_3).f1) a1_4] : List Int))).bind fun t246 => ((haulierref36_with.f k l0 a1_1 t246).bind fun t249 => (if a1_3 < (t249.length : Int) then ((haulierref36_cut.f k ((rd_T35 t249 a1_3).f1) a1_4 1).bind fun t253 => ((haulierref36_put.f t253 a1_4 (([rd ((rd_T35 l0 a1_1).f1) a1_2] : List Int))).bind fun t259 => ((haulierref36_with.f k t249 a1_3 t259).bind fun t262 => (some (t262, true))))) else (none))))) else (none)) else (none)) else (none)) else (none))))))) else (if a1_2 < 0 then (some (([] : List (S35)), false)) else (if a1_2 ≥ (((rd_T35 l0 a1_1).f1).length : Int) then (some (([] : List (S35)), false)) else (if a1_4 < 0 then (some (([] : List (S35)), false)) else (if a1_4 ≥ (((rd_T35 l0 a1_3).f1).length : Int) then (some (([] : List (S35)), false)) else (if 0 ≤ a1_2 then (if a1_2 < (((rd_T35 l0 a1_1).f1).length : Int) then (if 0 ≤ a1_4 then (if a1_4 < (((rd_T35 l0 a1_3).f1).length : Int) then ((haulierref36_cut.f k ((rd_T35 l0 a1_1).f1) a1_2 1).bind fun t267 => ((haulierref36_put.f t267 a1_2 (([rd ((rd_T35 l0 a1_3).f1) a1_4] : List Int))).bind fun t273 => ((haulierref36_with.f k l0 a1_1 t273).bind fun t276 => (if a1_3 < (t276.length : Int) then ((haulierref36_cut.f k ((rd_T35 t276 a1_3).f1) a1_4 1).bind fun t280 => ((haulierref36_put.f t280 a1_4 (([rd ((rd_T35 l0 a1_1).f1) a1_2] : List Int))).bind fun t286 => ((haulierref36_with.f k t276 a1_3 t286).bind fun t289 => (some (t289, true))))) else (none))))) else (none)) else (none)) else (none)) else (none)))))))) else (none)) else (none)) else (none)) else (none)) = some (r1, r2) := h
  clear h
  by_cases c3 : 0 ≤ a1_1
  rotate_left
  ·rw [if_neg c3] at H
   exact absurd H (by simp)
  rw [if_pos c3] at H
  have c3b0 : decide (0 ≤ a1_1) = true := decide_eq_true c3
  clear c3
  by_cases c4 : a1_1 < (l0.length : Int)
  rotate_left
  ·rw [if_neg c4] at H
   exact absurd H (by simp)
  rw [if_pos c4] at H
  have c4b0 : decide (a1_1 < (l0.length : Int)) = true := decide_eq_true c4
  clear c4
  by_cases c5 : 0 ≤ a1_3
  rotate_left
  ·rw [if_neg c5] at H
   exact absurd H (by simp)
  rw [if_pos c5] at H
  have c5b0 : decide (0 ≤ a1_3) = true := decide_eq_true c5
  clear c5
  by_cases c6 : a1_3 < (l0.length : Int)
  rotate_left
  ·rw [if_neg c6] at H
   exact absurd H (by simp)
  rw [if_pos c6] at H
  have c6b0 : decide (a1_3 < (l0.length : Int)) = true := decide_eq_true c6
  clear c6
  by_cases c7 : a1_1 > a1_3
  ·rw [if_pos c7] at H
   have c7b0 : decide (a1_3 < a1_1) = true := decide_eq_true c7
   clear c7
   simp only [Option.some.injEq, Prod.mk.injEq] at H
   obtain ⟨rfl, rfl⟩ := H
   exact haulierref36_exchange.no1 k P0_ A0 c0 l0 a1_0 a1_1 a1_2 a1_3 a1_4 a1_5 w hs0 (.inl ⟨c3b0, c4b0, c5b0, c6b0, c7b0⟩)
  rw [if_neg c7] at H
  have c7b0 : decide (a1_3 < a1_1) = false := decide_eq_false c7
  clear c7
  by_cases c11 : a1_1 = a1_3
  rotate_left
  ·rw [if_neg c11] at H
   have c11b0 : (a1_1 == a1_3) = false := beq_eq_false_iff_ne.mpr c11
   have c11b1 : (a1_1 != a1_3) = true := bne_iff_ne.mpr c11
   exact haulierref36_exchange.rest k P0_ A0 c0 l0 a1_0 a1_1 a1_2 a1_3 a1_4 a1_5 w hs0 r1 r2 (.inr (⟨c3b0, c4b0, c5b0, c6b0, c7b0, c11b0, c11b1⟩)) H
  rw [if_pos c11] at H
  have c11b0 : (a1_1 == a1_3) = true := beq_iff_eq.mpr c11
  have c11b1 : (a1_1 != a1_3) = false := bne_eq_false_iff_eq.mpr c11
  clear c11
  by_cases c12 : a1_2 ≥ a1_4
  rotate_left
  ·rw [if_neg c12] at H
   have c12b0 : decide (a1_4 ≤ a1_2) = false := decide_eq_false c12
   clear c12
   exact haulierref36_exchange.rest k P0_ A0 c0 l0 a1_0 a1_1 a1_2 a1_3 a1_4 a1_5 w hs0 r1 r2 (.inl ⟨c3b0, c4b0, c5b0, c6b0, c7b0, c11b0, c11b1, c12b0⟩) H
  rw [if_pos c12] at H
  have c12b0 : decide (a1_4 ≤ a1_2) = true := decide_eq_true c12
  clear c12
  simp only [Option.some.injEq, Prod.mk.injEq] at H
  obtain ⟨rfl, rfl⟩ := H
  exact haulierref36_exchange.no1 k P0_ A0 c0 l0 a1_0 a1_1 a1_2 a1_3 a1_4 a1_5 w hs0 (.inr (.inl ⟨c3b0, c4b0, c5b0, c6b0, c7b0, c11b0, c11b1, c12b0⟩))
end Go.Proofs.Ytcofibbgdnbejaa.MMoveAll
