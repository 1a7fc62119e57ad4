/- Written by a program of this session: Go functions that the law MoveAll reaches, as Lean functions, each with a proof that the Go code comes to just what it says; every input of the kinds that a contract names. -/
import Derived.Test.YtcofibbgdnbejaaMMoveAllx0
import Derived.Test.YtcofibbgdnbejaaMMoveAllx3
import Derived.Test.YtcofibbgdnbejaaMMoveAllx4
namespace Go.Proofs.Ytcofibbgdnbejaa.MMoveAll
open Go.RowKit Go.Proofs.YtcofibbgdnbejaaW.PrintWords Go.Proofs.YtcofibbgdnbejaaW.PrintLast Go.Proofs.YtcofibbgdnbejaaW.PrintMore
attribute [local go_sem] max2_int min2_int max_two min_two max_three min_three max_four min_four
set_option linter.unusedVariables false
set_option linter.unusedSimpArgs false
set_option linter.unnecessarySimpa false
/-! ### haulierref36_tails: function 35 -/
def haulierref36_tails.f (k : Nat) (l0 : List (S35)) (a1_0 : Int) (a1_1 : Int) (a1_2 : Int) (a1_3 : Int) (a1_4 : Int) (a1_5 : Int) : Option ((List (S35)) × Bool) := if 0 ≤ a1_1 then (if a1_1 < (l0.length : Int) then (if 0 ≤ a1_3 then (if a1_3 < (l0.length : Int) then (if a1_1 ≥ a1_3 then (some (([] : List (S35)), false)) else (if a1_2 < 0 then (some (([] : List (S35)), false)) else (if a1_2 > (((rd_T35 l0 a1_1).f1).length : Int) then (some (([] : List (S35)), false)) else (if a1_4 < 0 then (some (([] : List (S35)), false)) else (if a1_4 > (((rd_T35 l0 a1_3).f1).length : Int) then (some (([] : List (S35)), false)) else (if 0 ≤ a1_2 then (if a1_2 ≤ (((rd_T35 l0 a1_1).f1).length : Int) then (if 0 ≤ a1_4 then (if a1_4 ≤ (((rd_T35 l0 a1_3).f1).length : Int) then ((haulierref36_put.f (((rd_T35 l0 a1_1).f1).take (a1_2 : Int).toNat) a1_2 (((rd_T35 l0 a1_3).f1).drop (a1_4 : Int).toNat)).bind fun t305 => ((haulierref36_with.f k l0 a1_1 t305).bind fun t308 => ((haulierref36_put.f (((rd_T35 l0 a1_3).f1).take (a1_4 : Int).toNat) a1_4 (((rd_T35 l0 a1_1).f1).drop (a1_2 : Int).toNat)).bind fun t321 => ((haulierref36_with.f k t308 a1_3 t321).bind fun t324 => (some (t324, true)))))) else (none)) else (none)) else (none)) else (none))))))) else (none)) else (none)) else (none)) else (none)
theorem haulierref36_tails.mono : ∀ a0 a1 a2 a3 a4 a5 a6 k, LeO (haulierref36_tails.f k a0 a1 a2 a3 a4 a5 a6) (haulierref36_tails.f (k + 1) a0 a1 a2 a3 a4 a5 a6) := by
  intro a0 a1 a2 a3 a4 a5 a6 k
  unfold haulierref36_tails.f
  repeat' first
   | (with_reducible exact haulierref36_with.mono _ _ _ _)
   | (with_reducible exact LeO.refl _)
   | (with_reducible exact LeO.none _)
   | (with_reducible refine LeO.ite ?_ ?_)
   | (with_reducible refine LeO.bind ?_ (fun _ => ?_))
   | exact haulierref36_with.mono _ _ _ _
   | exact LeO.none _
   | refine LeO.ite ?_ ?_
   | refine LeO.bind ?_ (fun _ => ?_)
def haulierref36_tails.T1 : Bool × List (List Nat × List Nat) := (true, [([], []), ([], []), ([1], [1]), ([0, 2], [0, 2]), ([3], [3]), ([4], [4]), ([], []), ([], []), ([7], [7]), ([6, 8], [6, 8]), ([9], [9]), ([10], [10]), ([5, 0, 1, 2, 3, 4, 5], [5]), ([11, 12, 0, 1, 2, 3, 4, 5, 6, 7, 8, 9, 10, 11, 12], [11])])
def haulierref36_tails.B1 : List Nat := [0, 0, 2, 7, 15, 31, 0, 0, 128, 448, 960, 1984, 63, 8191]
theorem haulierref36_tails.tab1 : rtab .any (opsOf Try.f35 1) = haulierref36_tails.T1 := by kernel_rfl
theorem haulierref36_tails.bits1 : waitsOk haulierref36_tails.T1.2 haulierref36_tails.B1 = true := by kernel_rfl
def haulierref36_tails.T4 : Bool × List (List Nat × List Nat) := (true, [([], []), ([], []), ([1], [1]), ([], []), ([], []), ([4], [4]), ([3, 5], [3, 5]), ([], []), ([7], [7]), ([], []), ([], []), ([10], [10]), ([9, 11], [9, 11]), ([6, 8, 12], [6, 8, 12]), ([0, 2, 13, 13], [0, 2, 13]), ([14, 14, 0, 1, 2, 3, 4, 5, 6, 7, 8, 9, 10, 11, 12, 13, 14], [14])])
def haulierref36_tails.B4 : List Nat := [0, 0, 2, 0, 0, 16, 56, 0, 128, 0, 0, 1024, 3584, 8184, 16383, 32767]
theorem haulierref36_tails.tab4 : rtab .any (opsOf Try.f35 4) = haulierref36_tails.T4 := by kernel_rfl
theorem haulierref36_tails.bits4 : waitsOk haulierref36_tails.T4.2 haulierref36_tails.B4 = true := by kernel_rfl
def haulierref36_tails.T5 : Bool × List (List Nat × List Nat) := (true, [([], []), ([], []), ([1], [1]), ([], []), ([], []), ([4], [4]), ([3, 5], [3, 5]), ([], []), ([7], [7]), ([], []), ([], []), ([10], [10]), ([9, 11], [9, 11]), ([6, 8, 12], [6, 8, 12]), ([0, 2, 13, 13], [0, 2, 13]), ([14, 14, 0, 1, 2, 3, 4, 5, 6, 7, 8, 9, 10, 11, 12, 13, 14], [14]), ([15, 0, 1, 2, 3, 4, 5, 6, 7, 8, 9, 10, 11, 12, 13, 14, 15], [])])
def haulierref36_tails.B5 : List Nat := [0, 0, 2, 0, 0, 16, 56, 0, 128, 0, 0, 1024, 3584, 8184, 16383, 32767, 65535]
theorem haulierref36_tails.tab5 : rtab .any (opsOf Try.f35 5) = haulierref36_tails.T5 := by kernel_rfl
theorem haulierref36_tails.bits5 : waitsOk haulierref36_tails.T5.2 haulierref36_tails.B5 = true := by kernel_rfl
set_option maxHeartbeats 8000000 in
set_option maxRecDepth 100000 in
theorem haulierref36_tails.no1 (k : Nat) (P0_ : Nat → Prop) (A0 : Option Addr) (c0 : Nat) (l0 : List (S35)) (a1_0 : Int) (a1_1 : Int) (a1_2 : Int) (a1_3 : Int) (a1_4 : Int) (a1_5 : Int) (w : World) (hs0 : Kd.V k35 35 w w.heap.size (fun k_ => P0_ k_) (.slice A0 l0.length c0) l0) (key : ((decide (0 ≤ a1_1) = true) ∧ (decide (a1_1 < (l0.length : Int)) = true) ∧ (decide (0 ≤ a1_3) = true) ∧ (decide (a1_3 < (l0.length : Int)) = true) ∧ (decide (a1_3 ≤ a1_1) = true)) ∨ ((decide (0 ≤ a1_1) = true) ∧ (decide (a1_1 < (l0.length : Int)) = true) ∧ (decide (0 ≤ a1_3) = true) ∧ (decide (a1_3 < (l0.length : Int)) = true) ∧ (decide (a1_3 ≤ a1_1) = false) ∧ (decide (a1_2 < 0) = true)) ∨ ((decide (0 ≤ a1_1) = true) ∧ (decide (a1_1 < (l0.length : Int)) = true) ∧ (decide (0 ≤ a1_3) = true) ∧ (decide (a1_3 < (l0.length : Int)) = true) ∧ (decide (a1_3 ≤ a1_1) = false) ∧ (decide (a1_2 < 0) = false) ∧ (decide ((((rd_T35 l0 a1_1).f1).length : Int) < a1_2) = true)) ∨ ((decide (0 ≤ a1_1) = true) ∧ (decide (a1_1 < (l0.length : Int)) = true) ∧ (decide (0 ≤ a1_3) = true) ∧ (decide (a1_3 < (l0.length : Int)) = true) ∧ (decide (a1_3 ≤ a1_1) = false) ∧ (decide (a1_2 < 0) = false) ∧ (decide ((((rd_T35 l0 a1_1).f1).length : Int) < a1_2) = false) ∧ (decide (a1_4 < 0) = true)) ∨ ((decide (0 ≤ a1_1) = true) ∧ (decide (a1_1 < (l0.length : Int)) = true) ∧ (decide (0 ≤ a1_3) = true) ∧ (decide (a1_3 < (l0.length : Int)) = true) ∧ (decide (a1_3 ≤ a1_1) = false) ∧ (decide (a1_2 < 0) = false) ∧ (decide ((((rd_T35 l0 a1_1).f1).length : Int) < a1_2) = false) ∧ (decide (a1_4 < 0) = false) ∧ (decide ((((rd_T35 l0 a1_3).f1).length : Int) < a1_4) = true))) :
    Calls Try.prog 35 #[.slice A0 l0.length c0, .agg #[.int .i64 a1_0, .int .i64 a1_1, .int .i64 a1_2, .int .i64 a1_3, .int .i64 a1_4, .int .i64 a1_5]] w fun e w' => ∃ v0_ : Value, e = .returned (.tuple #[v0_, .bool false]) ∧ Kd.N k35 35 w' w.heap.size (fun k_ => (P0_ k_ ∨ w.heap.size ≤ k_)) v0_ ([] : List (S35)) ∧ Below w.heap.size w w' := by
  have hu24 := Try.underlying24
  have HO0 := Aside0.mk (show Kd.V k35 35 w w.heap.size (fun k_ => (P0_ k_ ∨ w.heap.size ≤ k_)) (.slice A0 l0.length c0) l0 from Kd.V_mono hs0 (fun k_ hk => .inl hk))
  have HB := Aside0.mk (Below.refl w.heap.size w)
  rcases key with ⟨c3b0, c4b0, c5b0, c6b0, c7b0⟩ | ⟨c3b0, c4b0, c5b0, c6b0, c7b0, c11b0⟩ | ⟨c3b0, c4b0, c5b0, c6b0, c7b0, c11b0, c15b0⟩ | ⟨c3b0, c4b0, c5b0, c6b0, c7b0, c11b0, c15b0, c19b0⟩ | ⟨c3b0, c4b0, c5b0, c6b0, c7b0, c11b0, c15b0, c19b0, c23b0⟩
  all_goals
   go_enter Try.func35, Try.ntmps35
   try go_wp2_with (first | ((with_reducible refine gate_dst (N := 3) rfl ?_); (try (refine gate_guard (by rfl) ?_; dsimp only)); refine box_event ?hg (N := 3) ?hd (cs := #[.int .i64 a1_0, .int .i64 a1_1, .int .i64 a1_2, .int .i64 a1_3, .int .i64 a1_4, .int .i64 a1_5]) (t := 24) ?hr ?_; (case hd => rfl); (case hg => rfl); (case hr => first | (go_simp; done) | (go_simp; rfl)); intro gb292 hg w8 hbox hb; have n0_ := Aside0.mk (Kd.V_below (Kd.V_elderB (by (with_reducible repeat (first | apply Kd.V_alloc | apply Kd.V_drewN | apply Kd.V_drew)); exact HO0.out) gb292 (Nat.le_of_eq hg.symm)) hb); have n1_ := Aside0.mk (below_step (by repeat (first | (with_reducible first | exact HB.out | apply below_alloc | apply pw_below_drewN | apply below_drew1) | exact HB.out)) hb); have n2_ := Aside0.mk (hbox); have n3_ := Aside0.mk ((by rw [hg]; exact (below_size (by repeat (first | (with_reducible first | exact HB.out | apply below_alloc | apply pw_below_drewN | apply below_drew1) | exact HB.out))) : w.heap.size ≤ gb292)); have n4_ := Aside0.mk ((by rw [hg]; exact (below_size (by repeat (first | (with_reducible first | exact HB.out | apply below_alloc | apply pw_below_drewN | apply below_drew1) | exact HB.out))) : w.heap.size ≤ gb292)); clear HO0; clear HB; have HO0 := n0_; have HB := n1_; have BK292 := n2_; have GW292 := n3_; have GE292 := n4_; clear n0_ n1_ n2_ n3_ n4_; clear hb hbox hg))
   have n0_ := Aside0.mk (Kd.V_drew HO0.out)
   have n1_ := Aside0.mk (blk_drew BK292.out)
   have n2_ := Aside0.mk (below_drew1 HB.out)
   clear HO0 BK292 HB
   have HO0 := n0_; have BK292 := n1_; have HB := n2_
   clear n0_ n1_ n2_
   have p293 : 0 ≤ (a1_1 : Int) := of_decide_eq_true (by first | (with_reducible assumption) | assumption)
   have q293 : a1_1 < (l0.length : Int) := of_decide_eq_true (by first | (with_reducible assumption) | assumption)
   obtain ⟨ad293, A293_1, c293_1, e293, hx293_0, hx293_1, hl293_1, hi293_1⟩ := at_T35 (Kd.V_reads' HO0.out).2.2 a1_1 p293 q293
   cases e293
   obtain ⟨ce293, hce293, hMe293, hcc293⟩ := Kd.V_get HO0.out z35 a1_1 p293 (by first | exact q293 | exact of_decide_eq_true (by first | (with_reducible assumption) | assumption) | (have e_ := (Kd.V_reads' HO0.out).1; omega))
   obtain ⟨ua293_1, uc293_1, rfl, ul293_1, ge293_1⟩ := k35_openF hMe293
   have hv293_1 := hcc293 1 _ rfl
   rw [add_field _ _ 1 (by omega)] at hv293_1
   replace hv293_1 := Option.some.inj (hv293_1.symm.trans hx293_1)
   injection hv293_1 with hva_ hvn_ hvc_
   rw [hva_] at ge293_1
   rw [hvc_] at ul293_1
   have HL293_1 := Aside0.mk (show Kd.V (Kd.int .i64) 3 _ w.heap.size _ _ ((rd_T35 l0 a1_1).f1) from Kd.V_mk ul293_1 ge293_1)
   clear hva_ hvn_ hvc_ ge293_1 ul293_1 hcc293 hce293
   have HR293_1 := Aside0.mk hi293_1
   have HC293_1 := Aside0.mk hl293_1
   clear hi293_1 hl293_1
   replace p293 := eq_true p293
   replace q293 := eq_true q293
   have p294 : 0 ≤ (a1_3 : Int) := of_decide_eq_true (by first | (with_reducible assumption) | assumption)
   have q294 : a1_3 < (l0.length : Int) := of_decide_eq_true (by first | (with_reducible assumption) | assumption)
   obtain ⟨ad294, A294_1, c294_1, e294, hx294_0, hx294_1, hl294_1, hi294_1⟩ := at_T35 (Kd.V_reads' HO0.out).2.2 a1_3 p294 q294
   obtain rfl : ad293 = ad294 := (by injection e294)
   obtain ⟨ce294, hce294, hMe294, hcc294⟩ := Kd.V_get HO0.out z35 a1_3 p294 (by first | exact q294 | exact of_decide_eq_true (by first | (with_reducible assumption) | assumption) | (have e_ := (Kd.V_reads' HO0.out).1; omega))
   obtain ⟨ua294_1, uc294_1, rfl, ul294_1, ge294_1⟩ := k35_openF hMe294
   have hv294_1 := hcc294 1 _ rfl
   rw [add_field _ _ 1 (by omega)] at hv294_1
   replace hv294_1 := Option.some.inj (hv294_1.symm.trans hx294_1)
   injection hv294_1 with hva_ hvn_ hvc_
   rw [hva_] at ge294_1
   rw [hvc_] at ul294_1
   have HL294_1 := Aside0.mk (show Kd.V (Kd.int .i64) 3 _ w.heap.size _ _ ((rd_T35 l0 a1_3).f1) from Kd.V_mk ul294_1 ge294_1)
   clear hva_ hvn_ hvc_ ge294_1 ul294_1 hcc294 hce294
   have HR294_1 := Aside0.mk hi294_1
   have HC294_1 := Aside0.mk hl294_1
   clear hi294_1 hl294_1
   replace p294 := eq_true p294
   replace q294 := eq_true q294
   refine start_ (n := 14) (S := fun w' => w'.cell? ⟨gb292, 0, none⟩ = some (.int .i64 a1_0) ∧ w'.cell? ⟨gb292, 1, none⟩ = some (.int .i64 a1_1) ∧ w'.cell? ⟨gb292, 2, none⟩ = some (.int .i64 a1_2) ∧ w'.cell? ⟨gb292, 3, none⟩ = some (.int .i64 a1_3) ∧ w'.cell? ⟨gb292, 4, none⟩ = some (.int .i64 a1_4) ∧ w'.cell? ⟨gb292, 5, none⟩ = some (.int .i64 a1_5) ∧ w'.cell? (ad293.add ((a1_1).toNat * 2)) = some (.int .i64 ((rd_T35 l0 a1_1).f0)) ∧ w'.cell? ⟨(ad293.add ((a1_1).toNat * 2)).block, (ad293.add ((a1_1).toNat * 2)).off + 1, none⟩ = some (.slice A293_1 ((rd_T35 l0 a1_1).f1).length c293_1) ∧ w'.cell? (ad293.add ((a1_3).toNat * 2)) = some (.int .i64 ((rd_T35 l0 a1_3).f0)) ∧ w'.cell? ⟨(ad293.add ((a1_3).toNat * 2)).block, (ad293.add ((a1_3).toNat * 2)).off + 1, none⟩ = some (.slice A294_1 ((rd_T35 l0 a1_3).f1).length c294_1)) (ds := []) #[false, false, false, false, false, false, false, false, false, false, false, false, false, false] (by kernel_rfl) rfl rfl ⟨(blk_cell BK292.out 0).trans rfl, (blk_cell BK292.out 1).trans rfl, (blk_cell BK292.out 2).trans rfl, (blk_cell BK292.out 3).trans rfl, (blk_cell BK292.out 4).trans rfl, (blk_cell BK292.out 5).trans rfl, hx293_0, hx293_1, hx294_0, hx294_1⟩ (fun hHeld => ?_); refine with_tabW haulierref36_tails.tab1 haulierref36_tails.bits1 (fun HT_ HW_ => ?_)
   generalize w8.drew = w9 at HO0 BK292 HB HL293_1 HL294_1 HR293_1 HR294_1 hx293_0 hx293_1 hx294_0 hx294_1 hHeld ⊢
   refine pure_ (i := 0) (N := some 9) (v := ?_) (a' := ?_) #[true, false, false, false, false, false, false, false, false, false, false, false, false, false] rfl rfl (any_of HT_.out (by kernel_rfl)) (fun _ _ _ h => h) (Or.inl ⟨by rfl, ?_⟩) ?_ ?_
   rotate_left
   ·intro w'
    go_simp
    with_reducible rfl
   rotate_left
   ·simp only [Act.put, List.setIfInBounds_toArray, List.set_cons_zero, List.set_cons_succ, i64_w, i32_w]
    rfl
   refine pure_ (i := 1) (N := some 10) (v := ?_) (a' := ?_) #[true, true, false, false, false, false, false, false, false, false, false, false, false, false] rfl rfl (any_of HT_.out (by kernel_rfl)) (fun _ _ _ h => h) (Or.inl ⟨by rfl, ?_⟩) ?_ ?_
   rotate_left
   ·intro w'
    go_simp
    with_reducible rfl
   rotate_left
   ·simp only [Act.put, List.setIfInBounds_toArray, List.set_cons_zero, List.set_cons_succ, i64_w, i32_w]
    rfl
   refine pure_ (i := 6) (N := some 15) (v := ?_) (a' := ?_) #[true, true, false, false, false, false, true, false, false, false, false, false, false, false] rfl rfl (any_of HT_.out (by kernel_rfl)) (fun _ _ _ h => h) (Or.inl ⟨by rfl, ?_⟩) ?_ ?_
   rotate_left
   ·intro w'
    go_simp
    with_reducible rfl
   rotate_left
   ·simp only [Act.put, List.setIfInBounds_toArray, List.set_cons_zero, List.set_cons_succ, i64_w, i32_w]
    rfl
   refine pure_ (i := 7) (N := some 16) (v := ?_) (a' := ?_) #[true, true, false, false, false, false, true, true, false, false, false, false, false, false] rfl rfl (any_of HT_.out (by kernel_rfl)) (fun _ _ _ h => h) (Or.inl ⟨by rfl, ?_⟩) ?_ ?_
   rotate_left
   ·intro w'
    go_simp
    with_reducible rfl
   rotate_left
   ·simp only [Act.put, List.setIfInBounds_toArray, List.set_cons_zero, List.set_cons_succ, i64_w, i32_w]
    rfl
   refine take_ (i := 2) (N := some 11) (v := ?_) (a' := ?_) #[true, true, true, false, false, false, true, true, false, false, false, false, false, false] rfl rfl (take_ofW HT_.out HW_.out (by kernel_rfl)) (fun _ _ _ h => h) (Or.inl ⟨by rfl, ?_⟩) hHeld ?_ ?_
   rotate_left
   ·rintro w' ⟨s0, s1, s2, s3, s4, s5, s6, s7, s8, s9⟩
    go_simp
    with_reducible rfl
   rotate_left
   ·simp only [Act.put, List.setIfInBounds_toArray, List.set_cons_zero, List.set_cons_succ, i64_w, i32_w]
    rfl
   refine pure_ (i := 3) (N := some 12) (v := ?_) (a' := ?_) #[true, true, true, true, false, false, true, true, false, false, false, false, false, false] rfl rfl (any_of HT_.out (by kernel_rfl)) (fun _ _ _ h => h) (Or.inl ⟨by rfl, ?_⟩) ?_ ?_
   rotate_left
   ·intro w'
    go_simp
    with_reducible rfl
   rotate_left
   ·simp only [Act.put, List.setIfInBounds_toArray, List.set_cons_zero, List.set_cons_succ, i64_w, i32_w]
    rfl
   refine pure_ (i := 4) (N := some 13) (v := ?_) (a' := ?_) #[true, true, true, true, true, false, true, true, false, false, false, false, false, false] rfl rfl (any_of HT_.out (by kernel_rfl)) (fun _ _ _ h => h) (Or.inl ⟨by rfl, ?_⟩) ?_ ?_
   rotate_left
   ·intro w'
    go_simp
    with_reducible rfl
   rotate_left
   ·simp only [Act.put, List.setIfInBounds_toArray, List.set_cons_zero, List.set_cons_succ, i64_w, i32_w]
    rfl
   refine take_ (i := 5) (N := some 14) (v := ?_) (a' := ?_) #[true, true, true, true, true, true, true, true, false, false, false, false, false, false] rfl rfl (take_ofW HT_.out HW_.out (by kernel_rfl)) (fun _ _ _ h => h) (Or.inl ⟨by rfl, ?_⟩) hHeld ?_ ?_
   rotate_left
   ·rintro w' ⟨s0, s1, s2, s3, s4, s5, s6, s7, s8, s9⟩
    go_simp
    with_reducible rfl
   rotate_left
   ·simp only [Act.put, List.setIfInBounds_toArray, List.set_cons_zero, List.set_cons_succ, i64_w, i32_w]
    rfl
   refine pure_ (i := 12) (N := some 6) (v := ?_) (a' := ?_) #[true, true, true, true, true, true, true, true, false, false, false, false, true, false] rfl rfl (any_of HT_.out (by kernel_rfl)) (fun _ _ _ h => h) (Or.inl ⟨by rfl, ?_⟩) ?_ ?_
   rotate_left
   ·intro w'
    go_simp
    with_reducible rfl
   rotate_left
   ·simp only [Act.put, List.setIfInBounds_toArray, List.set_cons_zero, List.set_cons_succ, i64_w, i32_w]
    rfl
   refine take_ (i := 8) (N := some 17) (v := ?_) (a' := ?_) #[true, true, true, true, true, true, true, true, true, false, false, false, true, false] rfl rfl (take_ofW HT_.out HW_.out (by kernel_rfl)) (fun _ _ _ h => h) (Or.inl ⟨by rfl, ?_⟩) hHeld ?_ ?_
   rotate_left
   ·rintro w' ⟨s0, s1, s2, s3, s4, s5, s6, s7, s8, s9⟩
    go_simp
    with_reducible rfl
   rotate_left
   ·simp only [Act.put, List.setIfInBounds_toArray, List.set_cons_zero, List.set_cons_succ, i64_w, i32_w]
    rfl
   refine pure_ (i := 9) (N := some 18) (v := ?_) (a' := ?_) #[true, true, true, true, true, true, true, true, true, true, false, false, true, false] rfl rfl (any_of HT_.out (by kernel_rfl)) (fun _ _ _ h => h) (Or.inl ⟨by rfl, ?_⟩) ?_ ?_
   rotate_left
   ·intro w'
    go_simp
    with_reducible rfl
   rotate_left
   ·simp only [Act.put, List.setIfInBounds_toArray, List.set_cons_zero, List.set_cons_succ, i64_w, i32_w]
    rfl
   refine pure_ (i := 10) (N := some 19) (v := ?_) (a' := ?_) #[true, true, true, true, true, true, true, true, true, true, true, false, true, false] rfl rfl (any_of HT_.out (by kernel_rfl)) (fun _ _ _ h => h) (Or.inl ⟨by rfl, ?_⟩) ?_ ?_
   rotate_left
   ·intro w'
    go_simp
    with_reducible rfl
   rotate_left
   ·simp only [Act.put, List.setIfInBounds_toArray, List.set_cons_zero, List.set_cons_succ, i64_w, i32_w]
    rfl
   refine take_ (i := 11) (N := some 20) (v := ?_) (a' := ?_) #[true, true, true, true, true, true, true, true, true, true, true, true, true, false] rfl rfl (take_ofW HT_.out HW_.out (by kernel_rfl)) (fun _ _ _ h => h) (Or.inl ⟨by rfl, ?_⟩) hHeld ?_ ?_
   rotate_left
   ·rintro w' ⟨s0, s1, s2, s3, s4, s5, s6, s7, s8, s9⟩
    go_simp
    with_reducible rfl
   rotate_left
   ·simp only [Act.put, List.setIfInBounds_toArray, List.set_cons_zero, List.set_cons_succ, i64_w, i32_w]
    rfl
   refine pure_ (i := 13) (N := some 7) (v := ?_) (a' := ?_) #[true, true, true, true, true, true, true, true, true, true, true, true, true, true] rfl rfl (any_of HT_.out (by kernel_rfl)) (fun _ _ _ h => h) (Or.inl ⟨by rfl, ?_⟩) ?_ ?_
   rotate_left
   ·intro w'
    go_simp
    with_reducible rfl
   rotate_left
   ·simp only [Act.put, List.setIfInBounds_toArray, List.set_cons_zero, List.set_cons_succ, i64_w, i32_w]
    rfl
   refine done_ (done_of HT_.out (by kernel_rfl)) ?_
   have hcz10_0 : w9.cell? ⟨gb292, 0, none⟩ = some (.int .i64 a1_0) := (blk_cell BK292.out 0).trans rfl
   have hcz10_1 : w9.cell? ⟨gb292, 1, none⟩ = some (.int .i64 a1_1) := (blk_cell BK292.out 1).trans rfl
   have hcz10_2 : w9.cell? ⟨gb292, 2, none⟩ = some (.int .i64 a1_2) := (blk_cell BK292.out 2).trans rfl
   have hcz10_3 : w9.cell? ⟨gb292, 3, none⟩ = some (.int .i64 a1_3) := (blk_cell BK292.out 3).trans rfl
   have hcz10_4 : w9.cell? ⟨gb292, 4, none⟩ = some (.int .i64 a1_4) := (blk_cell BK292.out 4).trans rfl
   have hcz10_5 : w9.cell? ⟨gb292, 5, none⟩ = some (.int .i64 a1_5) := (blk_cell BK292.out 5).trans rfl
   have hfz10_0 := blk_frozen BK292.out 0
   have hfz10_1 := blk_frozen BK292.out 1
   have hfz10_2 := blk_frozen BK292.out 2
   have hfz10_3 := blk_frozen BK292.out 3
   have hfz10_4 := blk_frozen BK292.out 4
   have hfz10_5 := blk_frozen BK292.out 5
   try go_wp2
   go_ret2
   exact ⟨_, by first | rfl | (simp [errW_none, errW_some] <;> rfl) | (simp [*, errW_none, errW_some] <;> rfl), by first | exact Kd.S_nil _ _ _ _ _ | exact Kd.N_nil _ _ _ _ _ | exact Kd.V_nil _ _ _ _ _ | exact Kd.Q_nil _ _ _ _ _ | exact Kd.R_nil _ _ _ _ _, by repeat (first | (with_reducible first | exact HB.out | apply below_alloc | apply pw_below_drewN | apply below_drew1 | refine below_set ?_ GE292.out) | exact HB.out)⟩
set_option maxHeartbeats 8000000 in
set_option maxRecDepth 100000 in
theorem haulierref36_tails.calls (k : Nat) (P0_ : Nat → Prop) (A0 : Option Addr) (c0 : Nat) (l0 : List (S35)) (a1_0 : Int) (a1_1 : Int) (a1_2 : Int) (a1_3 : Int) (a1_4 : Int) (a1_5 : Int) (r1 : List (S35)) (r2 : Bool) (w : World) (hs0 : Kd.V k35 35 w w.heap.size (fun k_ => P0_ k_) (.slice A0 l0.length c0) l0) (h : haulierref36_tails.f k l0 a1_0 a1_1 a1_2 a1_3 a1_4 a1_5 = some (r1, r2)) :
    Calls Try.prog 35 #[.slice A0 l0.length c0, .agg #[.int .i64 a1_0, .int .i64 a1_1, .int .i64 a1_2, .int .i64 a1_3, .int .i64 a1_4, .int .i64 a1_5]] w fun e w' => ∃ v0_ : Value, e = .returned (.tuple #[v0_, .bool r2]) ∧ Kd.N k35 35 w' w.heap.size (fun k_ => (P0_ k_ ∨ w.heap.size ≤ k_)) v0_ r1 ∧ Below w.heap.size w w' := by
  have hu24 := Try.underlying24
  have HO0 := Aside0.mk (show Kd.V k35 35 w w.heap.size (fun k_ => (P0_ k_ ∨ w.heap.size ≤ k_)) (.slice A0 l0.length c0) l0 from Kd.V_mono hs0 (fun k_ hk => .inl hk))
  have HB := Aside0.mk (Below.refl w.heap.size w)
  have H : (if 0 ≤ a1_1 then (if a1_1 < (l0.length : Int) then (if 0 ≤ a1_3 then (if a1_3 < (l0.length : Int) then (if a1_1 ≥ a1_3 then (some (([] : List (S35)), false)) else (if a1_2 < 0 then (some (([] : List (S35)), false)) else (if a1_2 > (((rd_T35 l0 a1_1).f1).length : Int) then (some (([] : List (S35)), false)) else (if a1_4 < 0 then (some (([] : List (S35)), false)) else (if a1_4 > (((rd_T35 l0 a1_3).f1).length : Int) then (some (([] : List (S35)), false)) else (if 0 ≤ a1_2 then (if a1_2 ≤ (((rd_T35 l0 a1_1).f1).length : Int) then (if 0 ≤ a1_4 then (if a1_4 ≤ (((rd_T35 l0 a1_3).f1).length : Int) then ((haulierref36_put.f (((rd_T35 l0 a1_1).f1).take (a1_2 : Int).toNat) a1_2 (((rd_T35 l0 a1_3).f1).drop (a1_4 : Int).toNat)).bind fun t305 => ((haulierref36_with.f k l0 a1_1 t305).bind fun t308 => ((haulierref36_put.f (((rd_T35 l0 a1_3).f1).take (a1_4 : Int).toNat) a1_4 (((rd_T35 l0 a1_1).f1).drop (a1_2 : Int).toNat)).bind fun t321 => ((haulierref36_with.f k t308 a1_3 t321).bind fun t324 => (some (t324, true)))))) else (none)) else (none)) else (none)) else (none))))))) else (none)) else (none)) else (none)) else (none)) = some (r1, r2) := h
  clear h
  by_cases c3 : 0 ≤ a1_1
  rotate_left
  ·rw [if_neg c3] at H
   exact absurd H (by simp)
  rw [if_pos c3] at H
  have c3b0 : decide (0 ≤ a1_1) = true := decide_eq_true c3
  clear c3
  by_cases c4 : a1_1 < (l0.length : Int)
  rotate_left
  ·rw [if_neg c4] at H
   exact absurd H (by simp)
  rw [if_pos c4] at H
  have c4b0 : decide (a1_1 < (l0.length : Int)) = true := decide_eq_true c4
  clear c4
  by_cases c5 : 0 ≤ a1_3
  rotate_left
  ·rw [if_neg c5] at H
   exact absurd H (by simp)
  rw [if_pos c5] at H
  have c5b0 : decide (0 ≤ a1_3) = true := decide_eq_true c5
  clear c5
  by_cases c6 : a1_3 < (l0.length : Int)
  rotate_left
  ·rw [if_neg c6] at H
   exact absurd H (by simp)
  rw [if_pos c6] at H
  have c6b0 : decide (a1_3 < (l0.length : Int)) = true := decide_eq_true c6
  clear c6
  by_cases c7 : a1_1 ≥ a1_3
  ·rw [if_pos c7] at H
   have c7b0 : decide (a1_3 ≤ a1_1) = true := decide_eq_true c7
   clear c7
   simp only [Option.some.injEq, Prod.mk.injEq] at H
   obtain ⟨rfl, rfl⟩ := H
   exact haulierref36_tails.no1 k P0_ A0 c0 l0 a1_0 a1_1 a1_2 a1_3 a1_4 a1_5 w hs0 (.inl ⟨c3b0, c4b0, c5b0, c6b0, c7b0⟩)
  rw [if_neg c7] at H
  have c7b0 : decide (a1_3 ≤ a1_1) = false := decide_eq_false c7
  clear c7
  by_cases c11 : a1_2 < 0
  ·rw [if_pos c11] at H
   have c11b0 : decide (a1_2 < 0) = true := decide_eq_true c11
   clear c11
   simp only [Option.some.injEq, Prod.mk.injEq] at H
   obtain ⟨rfl, rfl⟩ := H
   exact haulierref36_tails.no1 k P0_ A0 c0 l0 a1_0 a1_1 a1_2 a1_3 a1_4 a1_5 w hs0 (.inr (.inl ⟨c3b0, c4b0, c5b0, c6b0, c7b0, c11b0⟩))
  rw [if_neg c11] at H
  have c11b0 : decide (a1_2 < 0) = false := decide_eq_false c11
  clear c11
  by_cases c15 : a1_2 > (((rd_T35 l0 a1_1).f1).length : Int)
  ·rw [if_pos c15] at H
   have c15b0 : decide ((((rd_T35 l0 a1_1).f1).length : Int) < a1_2) = true := decide_eq_true c15
   clear c15
   simp only [Option.some.injEq, Prod.mk.injEq] at H
   obtain ⟨rfl, rfl⟩ := H
   exact haulierref36_tails.no1 k P0_ A0 c0 l0 a1_0 a1_1 a1_2 a1_3 a1_4 a1_5 w hs0 (.inr (.inr (.inl ⟨c3b0, c4b0, c5b0, c6b0, c7b0, c11b0, c15b0⟩)))
  rw [if_neg c15] at H
  have c15b0 : decide ((((rd_T35 l0 a1_1).f1).length : Int) < a1_2) = false := decide_eq_false c15
  clear c15
  by_cases c19 : a1_4 < 0
  ·rw [if_pos c19] at H
   have c19b0 : decide (a1_4 < 0) = true := decide_eq_true c19
   clear c19
   simp only [Option.some.injEq, Prod.mk.injEq] at H
   obtain ⟨rfl, rfl⟩ := H
   exact haulierref36_tails.no1 k P0_ A0 c0 l0 a1_0 a1_1 a1_2 a1_3 a1_4 a1_5 w hs0 (.inr (.inr (.inr (.inl ⟨c3b0, c4b0, c5b0, c6b0, c7b0, c11b0, c15b0, c19b0⟩))))
  rw [if_neg c19] at H
  have c19b0 : decide (a1_4 < 0) = false := decide_eq_false c19
  clear c19
  by_cases c23 : a1_4 > (((rd_T35 l0 a1_3).f1).length : Int)
  ·rw [if_pos c23] at H
   have c23b0 : decide ((((rd_T35 l0 a1_3).f1).length : Int) < a1_4) = true := decide_eq_true c23
   clear c23
   simp only [Option.some.injEq, Prod.mk.injEq] at H
   obtain ⟨rfl, rfl⟩ := H
   exact haulierref36_tails.no1 k P0_ A0 c0 l0 a1_0 a1_1 a1_2 a1_3 a1_4 a1_5 w hs0 (.inr (.inr (.inr (.inr (⟨c3b0, c4b0, c5b0, c6b0, c7b0, c11b0, c15b0, c19b0, c23b0⟩)))))
  rw [if_neg c23] at H
  have c23b0 : decide ((((rd_T35 l0 a1_3).f1).length : Int) < a1_4) = false := decide_eq_false c23
  clear c23
  by_cases c27 : 0 ≤ a1_2
  rotate_left
  ·rw [if_neg c27] at H
   exact absurd H (by simp)
  rw [if_pos c27] at H
  have c27b0 := eq_true c27
  have c27b1 : decide (0 ≤ a1_2) = true := decide_eq_true c27
  clear c27
  by_cases c28 : a1_2 ≤ (((rd_T35 l0 a1_1).f1).length : Int)
  rotate_left
  ·rw [if_neg c28] at H
   exact absurd H (by simp)
  rw [if_pos c28] at H
  have c28b0 := eq_true c28
  have c28b1 : decide (a1_2 ≤ (((rd_T35 l0 a1_1).f1).length : Int)) = true := decide_eq_true c28
  clear c28
  obtain ⟨y295, hy295⟩ : ∃ y_ : List Int, y_ = (((rd_T35 l0 a1_1).f1).take (a1_2 : Int).toNat) := ⟨_, rfl⟩
  replace H : (if 0 ≤ a1_4 then (if a1_4 ≤ (((rd_T35 l0 a1_3).f1).length : Int) then ((haulierref36_put.f y295 a1_2 (((rd_T35 l0 a1_3).f1).drop (a1_4 : Int).toNat)).bind fun t305 => ((haulierref36_with.f k l0 a1_1 t305).bind fun t308 => ((haulierref36_put.f (((rd_T35 l0 a1_3).f1).take (a1_4 : Int).toNat) a1_4 (((rd_T35 l0 a1_1).f1).drop (a1_2 : Int).toNat)).bind fun t321 => ((haulierref36_with.f k t308 a1_3 t321).bind fun t324 => (some (t324, true)))))) else (none)) else (none)) = some (r1, r2) := by first | (rw [hy295]; with_reducible exact H) | (have H2_ := (Option.bind_some _ _).symm.trans H; rw [hy295]; with_reducible exact H2_) | (have H2_ := (Option.bind_some _ _).symm.trans H; with_reducible exact H2_) | with_reducible exact H | (rw [hy295]; exact H) | exact H
  have Ny295 := Aside0.mk hy295
  clear hy295
  by_cases c29 : 0 ≤ a1_4
  rotate_left
  ·rw [if_neg c29] at H
   exact absurd H (by simp)
  rw [if_pos c29] at H
  have c29b0 := eq_true c29
  have c29b1 : decide (0 ≤ a1_4) = true := decide_eq_true c29
  clear c29
  by_cases c30 : a1_4 ≤ (((rd_T35 l0 a1_3).f1).length : Int)
  rotate_left
  ·rw [if_neg c30] at H
   exact absurd H (by simp)
  rw [if_pos c30] at H
  have c30b0 := eq_true c30
  have c30b1 : decide (a1_4 ≤ (((rd_T35 l0 a1_3).f1).length : Int)) = true := decide_eq_true c30
  clear c30
  obtain ⟨y300, hy300⟩ : ∃ y_ : List Int, y_ = (((rd_T35 l0 a1_3).f1).drop (a1_4 : Int).toNat) := ⟨_, rfl⟩
  replace H : ((haulierref36_put.f y295 a1_2 y300).bind fun t305 => ((haulierref36_with.f k l0 a1_1 t305).bind fun t308 => ((haulierref36_put.f (((rd_T35 l0 a1_3).f1).take (a1_4 : Int).toNat) a1_4 (((rd_T35 l0 a1_1).f1).drop (a1_2 : Int).toNat)).bind fun t321 => ((haulierref36_with.f k t308 a1_3 t321).bind fun t324 => (some (t324, true)))))) = some (r1, r2) := by first | (rw [hy300]; with_reducible exact H) | (have H2_ := (Option.bind_some _ _).symm.trans H; rw [hy300]; with_reducible exact H2_) | (have H2_ := (Option.bind_some _ _).symm.trans H; with_reducible exact H2_) | with_reducible exact H | (rw [hy300]; exact H) | exact H
  have Ny300 := Aside0.mk hy300
  clear hy300
  replace H := Option.bind_eq_some_iff.mp H
  obtain ⟨t305, A310, H⟩ := H
  replace H : ((haulierref36_with.f k l0 a1_1 t305).bind fun t308 => ((haulierref36_put.f (((rd_T35 l0 a1_3).f1).take (a1_4 : Int).toNat) a1_4 (((rd_T35 l0 a1_1).f1).drop (a1_2 : Int).toNat)).bind fun t321 => ((haulierref36_with.f k t308 a1_3 t321).bind fun t324 => (some (t324, true))))) = some (r1, r2) := H
  have A31 := Aside0.mk A310
  clear A310
  replace H := Option.bind_eq_some_iff.mp H
  obtain ⟨t308, A320, H⟩ := H
  replace H : ((haulierref36_put.f (((rd_T35 l0 a1_3).f1).take (a1_4 : Int).toNat) a1_4 (((rd_T35 l0 a1_1).f1).drop (a1_2 : Int).toNat)).bind fun t321 => ((haulierref36_with.f k t308 a1_3 t321).bind fun t324 => (some (t324, true)))) = some (r1, r2) := H
  have A32 := Aside0.mk A320
  clear A320
  have c33b0 := eq_true (of_decide_eq_true (by first | (with_reducible assumption) | assumption) : 0 ≤ a1_4)
  have c34b0 := eq_true (of_decide_eq_true (by first | (with_reducible assumption) | assumption) : a1_4 ≤ (((rd_T35 l0 a1_3).f1).length : Int))
  obtain ⟨y311, hy311⟩ : ∃ y_ : List Int, y_ = (((rd_T35 l0 a1_3).f1).take (a1_4 : Int).toNat) := ⟨_, rfl⟩
  replace H : ((haulierref36_put.f y311 a1_4 (((rd_T35 l0 a1_1).f1).drop (a1_2 : Int).toNat)).bind fun t321 => ((haulierref36_with.f k t308 a1_3 t321).bind fun t324 => (some (t324, true)))) = some (r1, r2) := by first | (rw [hy311]; with_reducible exact H) | (have H2_ := (Option.bind_some _ _).symm.trans H; rw [hy311]; with_reducible exact H2_) | (have H2_ := (Option.bind_some _ _).symm.trans H; with_reducible exact H2_) | with_reducible exact H | (rw [hy311]; exact H) | exact H
  have Ny311 := Aside0.mk hy311
  clear hy311
  have c35b0 := eq_true (of_decide_eq_true (by first | (with_reducible assumption) | assumption) : 0 ≤ a1_2)
  have c36b0 := eq_true (of_decide_eq_true (by first | (with_reducible assumption) | assumption) : a1_2 ≤ (((rd_T35 l0 a1_1).f1).length : Int))
  obtain ⟨y316, hy316⟩ : ∃ y_ : List Int, y_ = (((rd_T35 l0 a1_1).f1).drop (a1_2 : Int).toNat) := ⟨_, rfl⟩
  replace H : ((haulierref36_put.f y311 a1_4 y316).bind fun t321 => ((haulierref36_with.f k t308 a1_3 t321).bind fun t324 => (some (t324, true)))) = some (r1, r2) := by first | (rw [hy316]; with_reducible exact H) | (have H2_ := (Option.bind_some _ _).symm.trans H; rw [hy316]; with_reducible exact H2_) | (have H2_ := (Option.bind_some _ _).symm.trans H; with_reducible exact H2_) | with_reducible exact H | (rw [hy316]; exact H) | exact H
  have Ny316 := Aside0.mk hy316
  clear hy316
  replace H := Option.bind_eq_some_iff.mp H
  obtain ⟨t321, A370, H⟩ := H
  replace H : ((haulierref36_with.f k t308 a1_3 t321).bind fun t324 => (some (t324, true))) = some (r1, r2) := H
  have A37 := Aside0.mk A370
  clear A370
  replace H := Option.bind_eq_some_iff.mp H
  obtain ⟨t324, A380, H⟩ := H
  replace H : (some (t324, true)) = some (r1, r2) := H
  have A38 := Aside0.mk A380
  clear A380
  simp only [Option.some.injEq, Prod.mk.injEq] at H
  obtain ⟨rfl, rfl⟩ := H
  go_enter Try.func35, Try.ntmps35
  try go_wp2_with (first | ((with_reducible refine gate_dst (N := 3) rfl ?_); (try (refine gate_guard (by rfl) ?_; dsimp only)); refine box_event ?hg (N := 3) ?hd (cs := #[.int .i64 a1_0, .int .i64 a1_1, .int .i64 a1_2, .int .i64 a1_3, .int .i64 a1_4, .int .i64 a1_5]) (t := 24) ?hr ?_; (case hd => rfl); (case hg => rfl); (case hr => first | (go_simp; done) | (go_simp; rfl)); intro gb292 hg w39 hbox hb; have n0_ := Aside0.mk (Kd.V_below (Kd.V_elderB (by (with_reducible repeat (first | apply Kd.V_alloc | apply Kd.V_drewN | apply Kd.V_drew)); exact HO0.out) gb292 (Nat.le_of_eq hg.symm)) hb); have n1_ := Aside0.mk (below_step (by repeat (first | (with_reducible first | exact HB.out | apply below_alloc | apply pw_below_drewN | apply below_drew1) | exact HB.out)) hb); have n2_ := Aside0.mk (hbox); have n3_ := Aside0.mk ((by rw [hg]; exact (below_size (by repeat (first | (with_reducible first | exact HB.out | apply below_alloc | apply pw_below_drewN | apply below_drew1) | exact HB.out))) : w.heap.size ≤ gb292)); have n4_ := Aside0.mk ((by rw [hg]; exact (below_size (by repeat (first | (with_reducible first | exact HB.out | apply below_alloc | apply pw_below_drewN | apply below_drew1) | exact HB.out))) : w.heap.size ≤ gb292)); clear HO0; clear HB; have HO0 := n0_; have HB := n1_; have BK292 := n2_; have GW292 := n3_; have GE292 := n4_; clear n0_ n1_ n2_ n3_ n4_; clear hb hbox hg))
  have n0_ := Aside0.mk (Kd.V_drew HO0.out)
  have n1_ := Aside0.mk (blk_drew BK292.out)
  have n2_ := Aside0.mk (below_drew1 HB.out)
  clear HO0 BK292 HB
  have HO0 := n0_; have BK292 := n1_; have HB := n2_
  clear n0_ n1_ n2_
  have p293 : 0 ≤ (a1_1 : Int) := of_decide_eq_true (by first | (with_reducible assumption) | assumption)
  have q293 : a1_1 < (l0.length : Int) := of_decide_eq_true (by first | (with_reducible assumption) | assumption)
  obtain ⟨ad293, A293_1, c293_1, e293, hx293_0, hx293_1, hl293_1, hi293_1⟩ := at_T35 (Kd.V_reads' HO0.out).2.2 a1_1 p293 q293
  cases e293
  obtain ⟨ce293, hce293, hMe293, hcc293⟩ := Kd.V_get HO0.out z35 a1_1 p293 (by first | exact q293 | exact of_decide_eq_true (by first | (with_reducible assumption) | assumption) | (have e_ := (Kd.V_reads' HO0.out).1; omega))
  obtain ⟨ua293_1, uc293_1, rfl, ul293_1, ge293_1⟩ := k35_openF hMe293
  have hv293_1 := hcc293 1 _ rfl
  rw [add_field _ _ 1 (by omega)] at hv293_1
  replace hv293_1 := Option.some.inj (hv293_1.symm.trans hx293_1)
  injection hv293_1 with hva_ hvn_ hvc_
  rw [hva_] at ge293_1
  rw [hvc_] at ul293_1
  have HL293_1 := Aside0.mk (show Kd.V (Kd.int .i64) 3 _ w.heap.size _ _ ((rd_T35 l0 a1_1).f1) from Kd.V_mk ul293_1 ge293_1)
  clear hva_ hvn_ hvc_ ge293_1 ul293_1 hcc293 hce293
  have HR293_1 := Aside0.mk hi293_1
  have HC293_1 := Aside0.mk hl293_1
  clear hi293_1 hl293_1
  replace p293 := eq_true p293
  replace q293 := eq_true q293
  have p294 : 0 ≤ (a1_3 : Int) := of_decide_eq_true (by first | (with_reducible assumption) | assumption)
  have q294 : a1_3 < (l0.length : Int) := of_decide_eq_true (by first | (with_reducible assumption) | assumption)
  obtain ⟨ad294, A294_1, c294_1, e294, hx294_0, hx294_1, hl294_1, hi294_1⟩ := at_T35 (Kd.V_reads' HO0.out).2.2 a1_3 p294 q294
  obtain rfl : ad293 = ad294 := (by injection e294)
  obtain ⟨ce294, hce294, hMe294, hcc294⟩ := Kd.V_get HO0.out z35 a1_3 p294 (by first | exact q294 | exact of_decide_eq_true (by first | (with_reducible assumption) | assumption) | (have e_ := (Kd.V_reads' HO0.out).1; omega))
  obtain ⟨ua294_1, uc294_1, rfl, ul294_1, ge294_1⟩ := k35_openF hMe294
  have hv294_1 := hcc294 1 _ rfl
  rw [add_field _ _ 1 (by omega)] at hv294_1
  replace hv294_1 := Option.some.inj (hv294_1.symm.trans hx294_1)
  injection hv294_1 with hva_ hvn_ hvc_
  rw [hva_] at ge294_1
  rw [hvc_] at ul294_1
  have HL294_1 := Aside0.mk (show Kd.V (Kd.int .i64) 3 _ w.heap.size _ _ ((rd_T35 l0 a1_3).f1) from Kd.V_mk ul294_1 ge294_1)
  clear hva_ hvn_ hvc_ ge294_1 ul294_1 hcc294 hce294
  have HR294_1 := Aside0.mk hi294_1
  have HC294_1 := Aside0.mk hl294_1
  clear hi294_1 hl294_1
  replace p294 := eq_true p294
  replace q294 := eq_true q294
  refine start_ (n := 14) (S := fun w' => w'.cell? ⟨gb292, 0, none⟩ = some (.int .i64 a1_0) ∧ w'.cell? ⟨gb292, 1, none⟩ = some (.int .i64 a1_1) ∧ w'.cell? ⟨gb292, 2, none⟩ = some (.int .i64 a1_2) ∧ w'.cell? ⟨gb292, 3, none⟩ = some (.int .i64 a1_3) ∧ w'.cell? ⟨gb292, 4, none⟩ = some (.int .i64 a1_4) ∧ w'.cell? ⟨gb292, 5, none⟩ = some (.int .i64 a1_5) ∧ w'.cell? (ad293.add ((a1_1).toNat * 2)) = some (.int .i64 ((rd_T35 l0 a1_1).f0)) ∧ w'.cell? ⟨(ad293.add ((a1_1).toNat * 2)).block, (ad293.add ((a1_1).toNat * 2)).off + 1, none⟩ = some (.slice A293_1 ((rd_T35 l0 a1_1).f1).length c293_1) ∧ w'.cell? (ad293.add ((a1_3).toNat * 2)) = some (.int .i64 ((rd_T35 l0 a1_3).f0)) ∧ w'.cell? ⟨(ad293.add ((a1_3).toNat * 2)).block, (ad293.add ((a1_3).toNat * 2)).off + 1, none⟩ = some (.slice A294_1 ((rd_T35 l0 a1_3).f1).length c294_1)) (ds := []) #[false, false, false, false, false, false, false, false, false, false, false, false, false, false] (by kernel_rfl) rfl rfl ⟨(blk_cell BK292.out 0).trans rfl, (blk_cell BK292.out 1).trans rfl, (blk_cell BK292.out 2).trans rfl, (blk_cell BK292.out 3).trans rfl, (blk_cell BK292.out 4).trans rfl, (blk_cell BK292.out 5).trans rfl, hx293_0, hx293_1, hx294_0, hx294_1⟩ (fun hHeld => ?_); refine with_tabW haulierref36_tails.tab1 haulierref36_tails.bits1 (fun HT_ HW_ => ?_)
  generalize w39.drew = w40 at HO0 BK292 HB HL293_1 HL294_1 HR293_1 HR294_1 hx293_0 hx293_1 hx294_0 hx294_1 hHeld ⊢
  refine pure_ (i := 0) (N := some 9) (v := ?_) (a' := ?_) #[true, false, false, false, false, false, false, false, false, false, false, false, false, false] rfl rfl (any_of HT_.out (by kernel_rfl)) (fun _ _ _ h => h) (Or.inl ⟨by rfl, ?_⟩) ?_ ?_
  rotate_left
  ·intro w'
   go_simp
   with_reducible rfl
  rotate_left
  ·simp only [Act.put, List.setIfInBounds_toArray, List.set_cons_zero, List.set_cons_succ, i64_w, i32_w]
   rfl
  refine pure_ (i := 1) (N := some 10) (v := ?_) (a' := ?_) #[true, true, false, false, false, false, false, false, false, false, false, false, false, false] rfl rfl (any_of HT_.out (by kernel_rfl)) (fun _ _ _ h => h) (Or.inl ⟨by rfl, ?_⟩) ?_ ?_
  rotate_left
  ·intro w'
   go_simp
   with_reducible rfl
  rotate_left
  ·simp only [Act.put, List.setIfInBounds_toArray, List.set_cons_zero, List.set_cons_succ, i64_w, i32_w]
   rfl
  refine pure_ (i := 6) (N := some 15) (v := ?_) (a' := ?_) #[true, true, false, false, false, false, true, false, false, false, false, false, false, false] rfl rfl (any_of HT_.out (by kernel_rfl)) (fun _ _ _ h => h) (Or.inl ⟨by rfl, ?_⟩) ?_ ?_
  rotate_left
  ·intro w'
   go_simp
   with_reducible rfl
  rotate_left
  ·simp only [Act.put, List.setIfInBounds_toArray, List.set_cons_zero, List.set_cons_succ, i64_w, i32_w]
   rfl
  refine pure_ (i := 7) (N := some 16) (v := ?_) (a' := ?_) #[true, true, false, false, false, false, true, true, false, false, false, false, false, false] rfl rfl (any_of HT_.out (by kernel_rfl)) (fun _ _ _ h => h) (Or.inl ⟨by rfl, ?_⟩) ?_ ?_
  rotate_left
  ·intro w'
   go_simp
   with_reducible rfl
  rotate_left
  ·simp only [Act.put, List.setIfInBounds_toArray, List.set_cons_zero, List.set_cons_succ, i64_w, i32_w]
   rfl
  refine take_ (i := 2) (N := some 11) (v := ?_) (a' := ?_) #[true, true, true, false, false, false, true, true, false, false, false, false, false, false] rfl rfl (take_ofW HT_.out HW_.out (by kernel_rfl)) (fun _ _ _ h => h) (Or.inl ⟨by rfl, ?_⟩) hHeld ?_ ?_
  rotate_left
  ·rintro w' ⟨s0, s1, s2, s3, s4, s5, s6, s7, s8, s9⟩
   go_simp
   with_reducible rfl
  rotate_left
  ·simp only [Act.put, List.setIfInBounds_toArray, List.set_cons_zero, List.set_cons_succ, i64_w, i32_w]
   rfl
  refine pure_ (i := 3) (N := some 12) (v := ?_) (a' := ?_) #[true, true, true, true, false, false, true, true, false, false, false, false, false, false] rfl rfl (any_of HT_.out (by kernel_rfl)) (fun _ _ _ h => h) (Or.inl ⟨by rfl, ?_⟩) ?_ ?_
  rotate_left
  ·intro w'
   go_simp
   with_reducible rfl
  rotate_left
  ·simp only [Act.put, List.setIfInBounds_toArray, List.set_cons_zero, List.set_cons_succ, i64_w, i32_w]
   rfl
  refine pure_ (i := 4) (N := some 13) (v := ?_) (a' := ?_) #[true, true, true, true, true, false, true, true, false, false, false, false, false, false] rfl rfl (any_of HT_.out (by kernel_rfl)) (fun _ _ _ h => h) (Or.inl ⟨by rfl, ?_⟩) ?_ ?_
  rotate_left
  ·intro w'
   go_simp
   with_reducible rfl
  rotate_left
  ·simp only [Act.put, List.setIfInBounds_toArray, List.set_cons_zero, List.set_cons_succ, i64_w, i32_w]
   rfl
  refine take_ (i := 5) (N := some 14) (v := ?_) (a' := ?_) #[true, true, true, true, true, true, true, true, false, false, false, false, false, false] rfl rfl (take_ofW HT_.out HW_.out (by kernel_rfl)) (fun _ _ _ h => h) (Or.inl ⟨by rfl, ?_⟩) hHeld ?_ ?_
  rotate_left
  ·rintro w' ⟨s0, s1, s2, s3, s4, s5, s6, s7, s8, s9⟩
   go_simp
   with_reducible rfl
  rotate_left
  ·simp only [Act.put, List.setIfInBounds_toArray, List.set_cons_zero, List.set_cons_succ, i64_w, i32_w]
   rfl
  refine pure_ (i := 12) (N := some 6) (v := ?_) (a' := ?_) #[true, true, true, true, true, true, true, true, false, false, false, false, true, false] rfl rfl (any_of HT_.out (by kernel_rfl)) (fun _ _ _ h => h) (Or.inl ⟨by rfl, ?_⟩) ?_ ?_
  rotate_left
  ·intro w'
   go_simp
   with_reducible rfl
  rotate_left
  ·simp only [Act.put, List.setIfInBounds_toArray, List.set_cons_zero, List.set_cons_succ, i64_w, i32_w]
   rfl
  refine take_ (i := 8) (N := some 17) (v := ?_) (a' := ?_) #[true, true, true, true, true, true, true, true, true, false, false, false, true, false] rfl rfl (take_ofW HT_.out HW_.out (by kernel_rfl)) (fun _ _ _ h => h) (Or.inl ⟨by rfl, ?_⟩) hHeld ?_ ?_
  rotate_left
  ·rintro w' ⟨s0, s1, s2, s3, s4, s5, s6, s7, s8, s9⟩
   go_simp
   with_reducible rfl
  rotate_left
  ·simp only [Act.put, List.setIfInBounds_toArray, List.set_cons_zero, List.set_cons_succ, i64_w, i32_w]
   rfl
  refine pure_ (i := 9) (N := some 18) (v := ?_) (a' := ?_) #[true, true, true, true, true, true, true, true, true, true, false, false, true, false] rfl rfl (any_of HT_.out (by kernel_rfl)) (fun _ _ _ h => h) (Or.inl ⟨by rfl, ?_⟩) ?_ ?_
  rotate_left
  ·intro w'
   go_simp
   with_reducible rfl
  rotate_left
  ·simp only [Act.put, List.setIfInBounds_toArray, List.set_cons_zero, List.set_cons_succ, i64_w, i32_w]
   rfl
  refine pure_ (i := 10) (N := some 19) (v := ?_) (a' := ?_) #[true, true, true, true, true, true, true, true, true, true, true, false, true, false] rfl rfl (any_of HT_.out (by kernel_rfl)) (fun _ _ _ h => h) (Or.inl ⟨by rfl, ?_⟩) ?_ ?_
  rotate_left
  ·intro w'
   go_simp
   with_reducible rfl
  rotate_left
  ·simp only [Act.put, List.setIfInBounds_toArray, List.set_cons_zero, List.set_cons_succ, i64_w, i32_w]
   rfl
  refine take_ (i := 11) (N := some 20) (v := ?_) (a' := ?_) #[true, true, true, true, true, true, true, true, true, true, true, true, true, false] rfl rfl (take_ofW HT_.out HW_.out (by kernel_rfl)) (fun _ _ _ h => h) (Or.inl ⟨by rfl, ?_⟩) hHeld ?_ ?_
  rotate_left
  ·rintro w' ⟨s0, s1, s2, s3, s4, s5, s6, s7, s8, s9⟩
   go_simp
   with_reducible rfl
  rotate_left
  ·simp only [Act.put, List.setIfInBounds_toArray, List.set_cons_zero, List.set_cons_succ, i64_w, i32_w]
   rfl
  refine pure_ (i := 13) (N := some 7) (v := ?_) (a' := ?_) #[true, true, true, true, true, true, true, true, true, true, true, true, true, true] rfl rfl (any_of HT_.out (by kernel_rfl)) (fun _ _ _ h => h) (Or.inl ⟨by rfl, ?_⟩) ?_ ?_
  rotate_left
  ·intro w'
   go_simp
   with_reducible rfl
  rotate_left
  ·simp only [Act.put, List.setIfInBounds_toArray, List.set_cons_zero, List.set_cons_succ, i64_w, i32_w]
   rfl
  refine done_ (done_of HT_.out (by kernel_rfl)) ?_
  have hcz41_0 : w40.cell? ⟨gb292, 0, none⟩ = some (.int .i64 a1_0) := (blk_cell BK292.out 0).trans rfl
  have hcz41_1 : w40.cell? ⟨gb292, 1, none⟩ = some (.int .i64 a1_1) := (blk_cell BK292.out 1).trans rfl
  have hcz41_2 : w40.cell? ⟨gb292, 2, none⟩ = some (.int .i64 a1_2) := (blk_cell BK292.out 2).trans rfl
  have hcz41_3 : w40.cell? ⟨gb292, 3, none⟩ = some (.int .i64 a1_3) := (blk_cell BK292.out 3).trans rfl
  have hcz41_4 : w40.cell? ⟨gb292, 4, none⟩ = some (.int .i64 a1_4) := (blk_cell BK292.out 4).trans rfl
  have hcz41_5 : w40.cell? ⟨gb292, 5, none⟩ = some (.int .i64 a1_5) := (blk_cell BK292.out 5).trans rfl
  have hfz41_0 := blk_frozen BK292.out 0
  have hfz41_1 := blk_frozen BK292.out 1
  have hfz41_2 := blk_frozen BK292.out 2
  have hfz41_3 := blk_frozen BK292.out 3
  have hfz41_4 := blk_frozen BK292.out 4
  have hfz41_5 := blk_frozen BK292.out 5
  try go_wp2
  have n0_ := Aside0.mk (Kd.V_drew HO0.out)
  have n1_ := Aside0.mk (Kd.V_drew HL293_1.out)
  have n2_ := Aside0.mk (Kd.V_drew HL294_1.out)
  have n3_ := Aside0.mk (blk_drew BK292.out)
  have n4_ := Aside0.mk (Kd.C_drew HR293_1.out)
  have n5_ := Aside0.mk (Kd.C_drew HR294_1.out)
  have n6_ := Aside0.mk (below_drew1 HB.out)
  clear HO0 HL293_1 HL294_1 BK292 HR293_1 HR294_1 HB
  have HO0 := n0_; have HL293_1 := n1_; have HL294_1 := n2_; have BK292 := n3_; have HR293_1 := n4_; have HR294_1 := n5_; have HB := n6_
  clear n0_ n1_ n2_ n3_ n4_ n5_ n6_
  have q43 : (a1_2 : Int) ≤ ((((rd_T35 l0 a1_1).f1).length : Int) : Int) := of_decide_eq_true (by first | (with_reducible assumption) | assumption)
  obtain ⟨i043, hi043, _, hsz43, _⟩ := info_parts info3
  have hroom43 : ((rd_T35 l0 a1_1).f1).length ≤ c293_1 := HC293_1.out
  have hC43 : Kd.F (Kd.int .i64) _ _ A293_1 ((rd_T35 l0 a1_1).f1).length ((rd_T35 l0 a1_1).f1) := (Kd.V_at (base := w.heap.size) HL293_1.out).2.2
  have hcut43 := cut_to (P := Try.prog) 33 3 .i64 Try.underlying33 hi043 A293_1 ((rd_T35 l0 a1_1).f1).length c293_1 a1_2 (of_decide_eq_true (by first | (with_reducible assumption) | assumption)) q43 hroom43
  have hr43 := Kd.F_take (m := (a1_2 : Int).toNat) hC43 (by omega)
  have hy43 : y295.length = (a1_2 : Int).toNat := (by rw [Ny295.out, List.length_take]; omega)
  rw [← Ny295.out] at hr43
  rw [← hy43] at hcut43
  have HO299 := Aside0.mk (show Kd.V (Kd.int .i64) 3 _ w.heap.size _ (.slice A293_1 y295.length c293_1) y295 from Kd.V_mk (by omega) hr43)
  have HC299 := Aside0.mk (show y295.length ≤ c293_1 from by omega)
  clear hr43 hC43 hroom43 hi043 hsz43
  have KY43 := Aside0.mk hy43
  clear hy43
  replace q43 := eq_true q43
  have q44 : (a1_4 : Int) ≤ ((((rd_T35 l0 a1_3).f1).length : Int) : Int) := of_decide_eq_true (by first | (with_reducible assumption) | assumption)
  obtain ⟨i044, hi044, _, hsz44, _⟩ := info_parts info3
  have hroom44 : ((rd_T35 l0 a1_3).f1).length ≤ c294_1 := HC294_1.out
  have hC44 : Kd.F (Kd.int .i64) _ _ A294_1 ((rd_T35 l0 a1_3).f1).length ((rd_T35 l0 a1_3).f1) := (Kd.V_at (base := w.heap.size) HL294_1.out).2.2
  have q044 : (0 : Int) ≤ (a1_4 : Int) := of_decide_eq_true (by first | (with_reducible assumption) | assumption)
  have hcut44 := cut_from (P := Try.prog) 33 3 .i64 Try.underlying33 hi044 1 hsz44 A294_1 ((rd_T35 l0 a1_3).f1).length c294_1 a1_4 q044 q44
  have hr44 := Kd.F_cut (m := (a1_4 : Int).toNat) (c := c294_1) hC44 (by omega) hroom44
  obtain ⟨A44, hA44⟩ : ∃ A1, A1 = (if c294_1 = (a1_4 : Int).toNat then A294_1 else (A294_1 : Option Addr).map (·.add ((a1_4 : Int).toNat * 1))) := ⟨_, rfl⟩
  obtain ⟨c44, hc44⟩ : ∃ c1, c1 = c294_1 - (a1_4 : Int).toNat := ⟨_, rfl⟩
  have hy44 : y300.length = ((rd_T35 l0 a1_3).f1).length - (a1_4 : Int).toNat := (by rw [Ny300.out, List.length_drop] <;> omega)
  rw [show ((rd_T35 l0 a1_3).f1).drop (a1_4 : Int).toNat = y300 from Ny300.out.symm] at hr44
  replace hr44 : Kd.F (Kd.int .i64) _ _ A44 y300.length y300 := (by rw [hA44]; exact hr44)
  rw [← hy44, ← hA44, ← hc44] at hcut44
  have HO304 := Aside0.mk (show Kd.V (Kd.int .i64) 3 _ w.heap.size _ (.slice A44 y300.length c44) y300 from Kd.V_mk (by rw [hy44, hc44]; exact Nat.sub_le_sub_right hroom44 _) hr44)
  have HC304 := Aside0.mk (show y300.length ≤ c44 from by rw [hy44, hc44]; exact Nat.sub_le_sub_right hroom44 _)
  clear hr44 hC44 hroom44 hi044 hsz44 hc44
  have KY44 := Aside0.mk hy44
  have KA44 := Aside0.mk hA44
  clear hy44 hA44
  replace q44 := eq_true q44
  refine start_ (n := 16) (S := fun w' => w'.cell? ⟨gb292, 0, none⟩ = some (.int .i64 a1_0) ∧ w'.cell? ⟨gb292, 1, none⟩ = some (.int .i64 a1_1) ∧ w'.cell? ⟨gb292, 2, none⟩ = some (.int .i64 a1_2) ∧ w'.cell? ⟨gb292, 3, none⟩ = some (.int .i64 a1_3) ∧ w'.cell? ⟨gb292, 4, none⟩ = some (.int .i64 a1_4) ∧ w'.cell? ⟨gb292, 5, none⟩ = some (.int .i64 a1_5)) (ds := []) #[false, false, false, false, false, false, false, false, false, false, false, false, false, false, false, false] (by kernel_rfl) rfl rfl ⟨(blk_cell BK292.out 0).trans rfl, (blk_cell BK292.out 1).trans rfl, (blk_cell BK292.out 2).trans rfl, (blk_cell BK292.out 3).trans rfl, (blk_cell BK292.out 4).trans rfl, (blk_cell BK292.out 5).trans rfl⟩ (fun hHeld => ?_); refine with_tabW haulierref36_tails.tab4 haulierref36_tails.bits4 (fun HT_ HW_ => ?_)
  generalize w40.drew = w42 at HO0 HL293_1 HL294_1 BK292 HR293_1 HR294_1 HB HO299 HO304 hHeld ⊢
  refine pure_ (i := 0) (N := some 50) (v := ?_) (a' := ?_) #[true, false, false, false, false, false, false, false, false, false, false, false, false, false, false, false] rfl rfl (any_of HT_.out (by kernel_rfl)) (fun _ _ _ h => h) (Or.inl ⟨by rfl, ?_⟩) ?_ ?_
  rotate_left
  ·intro w'
   go_simp
   with_reducible rfl
  rotate_left
  ·simp only [Act.put, List.setIfInBounds_toArray, List.set_cons_zero, List.set_cons_succ, i64_w, i32_w]
   rfl
  refine pure_ (i := 1) (N := some 51) (v := ?_) (a' := ?_) #[true, true, false, false, false, false, false, false, false, false, false, false, false, false, false, false] rfl rfl (any_of HT_.out (by kernel_rfl)) (fun _ _ _ h => h) (Or.inl ⟨by rfl, ?_⟩) ?_ ?_
  rotate_left
  ·intro w'
   go_simp
   with_reducible rfl
  rotate_left
  ·simp only [Act.put, List.setIfInBounds_toArray, List.set_cons_zero, List.set_cons_succ, i64_w, i32_w]
   rfl
  refine pure_ (i := 3) (N := some 53) (v := ?_) (a' := ?_) #[true, true, false, true, false, false, false, false, false, false, false, false, false, false, false, false] rfl rfl (any_of HT_.out (by kernel_rfl)) (fun _ _ _ h => h) (Or.inl ⟨by rfl, ?_⟩) ?_ ?_
  rotate_left
  ·intro w'
   go_simp
   with_reducible rfl
  rotate_left
  ·simp only [Act.put, List.setIfInBounds_toArray, List.set_cons_zero, List.set_cons_succ, i64_w, i32_w]
   rfl
  refine pure_ (i := 4) (N := some 54) (v := ?_) (a' := ?_) #[true, true, false, true, true, false, false, false, false, false, false, false, false, false, false, false] rfl rfl (any_of HT_.out (by kernel_rfl)) (fun _ _ _ h => h) (Or.inl ⟨by rfl, ?_⟩) ?_ ?_
  rotate_left
  ·intro w'
   go_simp
   with_reducible rfl
  rotate_left
  ·simp only [Act.put, List.setIfInBounds_toArray, List.set_cons_zero, List.set_cons_succ, i64_w, i32_w]
   rfl
  refine pure_ (i := 7) (N := some 57) (v := ?_) (a' := ?_) #[true, true, false, true, true, false, false, true, false, false, false, false, false, false, false, false] rfl rfl (any_of HT_.out (by kernel_rfl)) (fun _ _ _ h => h) (Or.inl ⟨by rfl, ?_⟩) ?_ ?_
  rotate_left
  ·intro w'
   go_simp
   with_reducible rfl
  rotate_left
  ·simp only [Act.put, List.setIfInBounds_toArray, List.set_cons_zero, List.set_cons_succ, i64_w, i32_w]
   rfl
  refine pure_ (i := 9) (N := some 59) (v := ?_) (a' := ?_) #[true, true, false, true, true, false, false, true, false, true, false, false, false, false, false, false] rfl rfl (any_of HT_.out (by kernel_rfl)) (fun _ _ _ h => h) (Or.inl ⟨by rfl, ?_⟩) ?_ ?_
  rotate_left
  ·intro w'
   go_simp
   with_reducible rfl
  rotate_left
  ·simp only [Act.put, List.setIfInBounds_toArray, List.set_cons_zero, List.set_cons_succ, i64_w, i32_w]
   rfl
  refine pure_ (i := 10) (N := some 60) (v := ?_) (a' := ?_) #[true, true, false, true, true, false, false, true, false, true, true, false, false, false, false, false] rfl rfl (any_of HT_.out (by kernel_rfl)) (fun _ _ _ h => h) (Or.inl ⟨by rfl, ?_⟩) ?_ ?_
  rotate_left
  ·intro w'
   go_simp
   with_reducible rfl
  rotate_left
  ·simp only [Act.put, List.setIfInBounds_toArray, List.set_cons_zero, List.set_cons_succ, i64_w, i32_w]
   rfl
  refine take_ (i := 2) (N := some 52) (v := ?_) (a' := ?_) #[true, true, true, true, true, false, false, true, false, true, true, false, false, false, false, false] rfl rfl (take_ofW HT_.out HW_.out (by kernel_rfl)) (fun _ _ _ h => h) (Or.inl ⟨by rfl, ?_⟩) hHeld ?_ ?_
  rotate_left
  ·rintro w' ⟨s0, s1, s2, s3, s4, s5⟩
   go_simp
   with_reducible rfl
  rotate_left
  ·simp only [Act.put, List.setIfInBounds_toArray, List.set_cons_zero, List.set_cons_succ, i64_w, i32_w]
   rfl
  refine take_ (i := 5) (N := some 55) (v := ?_) (a' := ?_) #[true, true, true, true, true, true, false, true, false, true, true, false, false, false, false, false] rfl rfl (take_ofW HT_.out HW_.out (by kernel_rfl)) (fun _ _ _ h => h) (Or.inl ⟨by rfl, ?_⟩) hHeld ?_ ?_
  rotate_left
  ·rintro w' ⟨s0, s1, s2, s3, s4, s5⟩
   go_simp
   with_reducible rfl
  rotate_left
  ·simp only [Act.put, List.setIfInBounds_toArray, List.set_cons_zero, List.set_cons_succ, i64_w, i32_w]
   rfl
  refine pure_ (i := 6) (N := some 56) (v := ?_) (a' := ?_) #[true, true, true, true, true, true, true, true, false, true, true, false, false, false, false, false] rfl rfl (any_of HT_.out (by kernel_rfl)) (fun _ _ _ h => h) (Or.inl ⟨by rfl, ?_⟩) ?_ ?_
  rotate_left
  ·intro w'
   go_simp
   with_reducible rfl
  rotate_left
  ·simp only [Act.put, List.setIfInBounds_toArray, List.set_cons_zero, List.set_cons_succ, i64_w, i32_w]
   rfl
  refine take_ (i := 8) (N := some 58) (v := ?_) (a' := ?_) #[true, true, true, true, true, true, true, true, true, true, true, false, false, false, false, false] rfl rfl (take_ofW HT_.out HW_.out (by kernel_rfl)) (fun _ _ _ h => h) (Or.inl ⟨by rfl, ?_⟩) hHeld ?_ ?_
  rotate_left
  ·rintro w' ⟨s0, s1, s2, s3, s4, s5⟩
   go_simp
   with_reducible rfl
  rotate_left
  ·simp only [Act.put, List.setIfInBounds_toArray, List.set_cons_zero, List.set_cons_succ, i64_w, i32_w]
   rfl
  refine take_ (i := 11) (N := some 61) (v := ?_) (a' := ?_) #[true, true, true, true, true, true, true, true, true, true, true, true, false, false, false, false] rfl rfl (take_ofW HT_.out HW_.out (by kernel_rfl)) (fun _ _ _ h => h) (Or.inl ⟨by rfl, ?_⟩) hHeld ?_ ?_
  rotate_left
  ·rintro w' ⟨s0, s1, s2, s3, s4, s5⟩
   go_simp
   with_reducible rfl
  rotate_left
  ·simp only [Act.put, List.setIfInBounds_toArray, List.set_cons_zero, List.set_cons_succ, i64_w, i32_w]
   rfl
  refine pure_ (i := 12) (N := some 62) (v := ?_) (a' := ?_) #[true, true, true, true, true, true, true, true, true, true, true, true, true, false, false, false] rfl rfl (any_of HT_.out (by kernel_rfl)) (fun _ _ _ h => h) (Or.inl ⟨by rfl, ?_⟩) ?_ ?_
  rotate_left
  ·intro w'
   go_simp
   with_reducible rfl
  rotate_left
  ·simp only [Act.put, List.setIfInBounds_toArray, List.set_cons_zero, List.set_cons_succ, i64_w, i32_w]
   rfl
  refine one_ (i := 13) (N := some 63) #[true, true, true, true, true, true, true, true, true, true, true, true, true, true, false, false] rfl rfl (one_of HT_.out (by kernel_rfl)) (by decide) (fun K hK => ?_)
  refine goes_ Try.func45 (by kernel_rfl) rfl #[.slice A293_1 y295.length c293_1, .int .i64 a1_2, .slice A44 y300.length c44] (by rfl) rfl rfl (by (try simp only [List.map_toArray, List.map_cons, List.map_nil]); first | done | rfl | (simp only [List.length_drop, List.length_take]; rfl)) ?_
  with_reducible refine (haulierref36_put.calls _ _ y295 a1_2 _ _ y300 t305 _ ?side1 ?side2 ?side3 ?side4 A31.out).mono ?_
  (case side1 => repeat (first | exact (Kd.V_reads' HO299.out).2.2 | (with_reducible refine Kd.C_alloc ?_ _) | (with_reducible refine Kd.C_drewN ?_ _) | (with_reducible refine Kd.C_drew ?_)))
  (case side2 => exact (Kd.V_reads' HO299.out).2.1)
  (case side3 => repeat (first | exact (Kd.V_reads' HO304.out).2.2 | (with_reducible refine Kd.C_alloc ?_ _) | (with_reducible refine Kd.C_drewN ?_ _) | (with_reducible refine Kd.C_drew ?_)))
  (case side4 => exact (Kd.V_reads' HO304.out).2.1)
  rintro e w45 ⟨v306, rfl, ho0, hb⟩
  refine ⟨_, rfl, ?_⟩
  have n0_ := Aside0.mk (Kd.V_elder' (by (with_reducible repeat (first | apply Kd.V_alloc | apply Kd.V_drewN | apply Kd.V_drew)); exact HO0.out) (Kd.R_base ho0) hb)
  have n1_ := Aside0.mk (Kd.V_elder' (by (with_reducible repeat (first | apply Kd.V_alloc | apply Kd.V_drewN | apply Kd.V_drew)); exact HL293_1.out) (Kd.R_base ho0) hb)
  have n2_ := Aside0.mk (Kd.V_elder' (by (with_reducible repeat (first | apply Kd.V_alloc | apply Kd.V_drewN | apply Kd.V_drew)); exact HL294_1.out) (Kd.R_base ho0) hb)
  have n3_ := Aside0.mk (Kd.V_elder' (by (with_reducible repeat (first | apply Kd.V_alloc | apply Kd.V_drewN | apply Kd.V_drew)); exact HO299.out) (Kd.R_base ho0) hb)
  have n4_ := Aside0.mk (Kd.V_elder' (by (with_reducible repeat (first | apply Kd.V_alloc | apply Kd.V_drewN | apply Kd.V_drew)); exact HO304.out) (Kd.R_base ho0) hb)
  have n5_ := Aside0.mk (Kd.R_lower (Kd.R_newM (M := fun k_ => (w.heap.size ≤ k_)) ho0 (below_size (by repeat (first | (with_reducible first | exact HB.out | apply below_alloc | apply pw_below_drewN | apply below_drew1 | refine below_set ?_ GE292.out) | exact HB.out))) (fun k_ h_ => h_)) (below_size (by repeat (first | (with_reducible first | exact HB.out | apply below_alloc | apply pw_below_drewN | apply below_drew1 | refine below_set ?_ GE292.out) | exact HB.out))))
  have n6_ := Aside0.mk (blk_below (g := gb292) (o := .cells #[.int .i64 a1_0, .int .i64 a1_1, .int .i64 a1_2, .int .i64 a1_3, .int .i64 a1_4, .int .i64 a1_5] 24 (0, 0)) (by (with_reducible repeat (first | refine blk_drewN ?_ _ | refine blk_drew ?_ | refine blk_alloc ?_ _)); exact BK292.out) hb)
  have n7_ := Aside0.mk (Kd.C_below (by repeat (first | (with_reducible exact HR293_1.out) | (with_reducible refine Kd.C_alloc ?_ _) | (with_reducible refine Kd.C_drewN ?_ _) | (with_reducible refine Kd.C_drew ?_) | exact HR293_1.out)) hb)
  have n8_ := Aside0.mk (Kd.C_below (by repeat (first | (with_reducible exact HR294_1.out) | (with_reducible refine Kd.C_alloc ?_ _) | (with_reducible refine Kd.C_drewN ?_ _) | (with_reducible refine Kd.C_drew ?_) | exact HR294_1.out)) hb)
  have n9_ := Aside0.mk (below_step (by repeat (first | (with_reducible first | exact HB.out | apply below_alloc | apply pw_below_drewN | apply below_drew1 | refine below_set ?_ GE292.out) | exact HB.out)) hb)
  clear HO0 HL293_1 HL294_1 HO299 HO304 BK292 HR293_1 HR294_1 HB
  have HO0 := n0_; have HL293_1 := n1_; have HL294_1 := n2_; have HO299 := n3_; have HO304 := n4_; have HO307 := n5_; have BK292 := n6_; have HR293_1 := n7_; have HR294_1 := n8_; have HB := n9_
  clear n0_ n1_ n2_ n3_ n4_ n5_ n6_ n7_ n8_ n9_
  try clear hb; try clear hb2; try clear hk; try clear hi; try clear ho0
  obtain ⟨Ao46, co46, eo46⟩ := Kd.R_slice HO307.out
  (first | subst eo46 | (injection eo46 with f1_ f2_ f3_; have f4_ := f1_.symm; have f5_ := f3_.symm; clear f1_ f2_ f3_; subst f4_; subst f5_))
  refine hK.out _ _ ⟨(blk_cell BK292.out 0).trans rfl, (blk_cell BK292.out 1).trans rfl, (blk_cell BK292.out 2).trans rfl, (blk_cell BK292.out 3).trans rfl, (blk_cell BK292.out 4).trans rfl, (blk_cell BK292.out 5).trans rfl⟩ (fun hHeld => ?_)
  clear hK K
  refine norm_ (a' := ?_) ?_ ?_
  rotate_left
  ·show Act.put _ (some 63) _ = _
   simp only [Act.put, List.setIfInBounds_toArray, List.set_cons_zero, List.set_cons_succ, i64_w, i32_w]
   rfl
  refine one_ (i := 14) (N := some 64) #[true, true, true, true, true, true, true, true, true, true, true, true, true, true, true, false] rfl rfl (one_of HT_.out (by kernel_rfl)) (by decide) (fun K hK => ?_)
  refine goes_ Try.func43 (by kernel_rfl) rfl #[.slice (some ad293) l0.length c0, .int .i64 a1_1, .slice Ao46 t305.length co46] (by rfl) rfl rfl (by (try simp only [List.map_toArray, List.map_cons, List.map_nil]); first | done | rfl | (simp only [List.length_drop, List.length_take]; rfl)) ?_
  with_reducible refine (haulierref36_with.calls k (fun k_ => (((P0_ k_ ∨ w.heap.size ≤ k_) ∧ k_ ≠ gb292) ∧ some k_ ≠ (.slice Ao46 t305.length co46 : Value).ownBlock)) _ _ l0 a1_1 (fun k_ => some k_ = (.slice Ao46 t305.length co46 : Value).ownBlock) _ _ t305 t308 _ ?side1 ?side2 A32.out).mono ?_
  (case side1 => exact HO0.out)
  (case side2 => exact Kd.R_V (Kd.R_tight rfl (Kd.R_types (HO307.out) BK292.out (by decide))))
  rintro e w47 ⟨v309, rfl, ho0, hb⟩
  refine ⟨_, rfl, ?_⟩
  have n0_ := Aside0.mk (Kd.V_elder' (by (with_reducible repeat (first | apply Kd.V_alloc | apply Kd.V_drewN | apply Kd.V_drew)); exact HO0.out) (Kd.N_base ho0) hb)
  have n1_ := Aside0.mk (Kd.V_elder' (by (with_reducible repeat (first | apply Kd.V_alloc | apply Kd.V_drewN | apply Kd.V_drew)); exact HL293_1.out) (Kd.N_base ho0) hb)
  have n2_ := Aside0.mk (Kd.V_elder' (by (with_reducible repeat (first | apply Kd.V_alloc | apply Kd.V_drewN | apply Kd.V_drew)); exact HL294_1.out) (Kd.N_base ho0) hb)
  have n3_ := Aside0.mk (Kd.V_elder' (by (with_reducible repeat (first | apply Kd.V_alloc | apply Kd.V_drewN | apply Kd.V_drew)); exact HO299.out) (Kd.N_base ho0) hb)
  have n4_ := Aside0.mk (Kd.V_elder' (by (with_reducible repeat (first | apply Kd.V_alloc | apply Kd.V_drewN | apply Kd.V_drew)); exact HO304.out) (Kd.N_base ho0) hb)
  have n5_ := Aside0.mk (Kd.R_below (by (with_reducible repeat (first | apply Kd.R_alloc | apply Kd.R_drewN | apply Kd.R_drew)); exact HO307.out) hb)
  have n6_ := Aside0.mk (Kd.N_lower (Kd.N_mono (ok' := fun k_ => (P0_ k_ ∨ w.heap.size ≤ k_) ∧ k_ ≠ gb292) ho0 (fun k_ hk_ => ⟨Or.elim hk_ (fun hs_ => Or.elim hs_ (fun hs_ => hs_.1.1) (fun hs_ => (.inr (((Kd.R_types (HO307.out) BK292.out (by decide)).1 k_ hs_.symm).1.1)))) (fun hn_ => (.inr (Nat.le_trans (below_size (by repeat (first | (with_reducible first | exact HB.out | apply below_alloc | apply pw_below_drewN | apply below_drew1 | refine below_set ?_ GE292.out) | exact HB.out))) hn_))), Or.elim hk_ (fun hs_ => Or.elim hs_ (fun hs_ => hs_.1.2) (fun hs_ => ((Kd.R_types (HO307.out) BK292.out (by decide)).1 k_ hs_.symm).2)) (fun hn_ => (Kd.freshB (g := gb292) (o := .cells #[.int .i64 a1_0, .int .i64 a1_1, .int .i64 a1_2, .int .i64 a1_3, .int .i64 a1_4, .int .i64 a1_5] 24 (0, 0)) (by (with_reducible repeat (first | refine blk_drewN ?_ _ | refine blk_drew ?_ | refine blk_alloc ?_ _)); exact BK292.out) k_ hn_))⟩)) (below_size (by repeat (first | (with_reducible first | exact HB.out | apply below_alloc | apply pw_below_drewN | apply below_drew1 | refine below_set ?_ GE292.out) | exact HB.out))))
  have n7_ := Aside0.mk (blk_below (g := gb292) (o := .cells #[.int .i64 a1_0, .int .i64 a1_1, .int .i64 a1_2, .int .i64 a1_3, .int .i64 a1_4, .int .i64 a1_5] 24 (0, 0)) (by (with_reducible repeat (first | refine blk_drewN ?_ _ | refine blk_drew ?_ | refine blk_alloc ?_ _)); exact BK292.out) hb)
  have n8_ := Aside0.mk (Kd.C_below (by repeat (first | (with_reducible exact HR293_1.out) | (with_reducible refine Kd.C_alloc ?_ _) | (with_reducible refine Kd.C_drewN ?_ _) | (with_reducible refine Kd.C_drew ?_) | exact HR293_1.out)) hb)
  have n9_ := Aside0.mk (Kd.C_below (by repeat (first | (with_reducible exact HR294_1.out) | (with_reducible refine Kd.C_alloc ?_ _) | (with_reducible refine Kd.C_drewN ?_ _) | (with_reducible refine Kd.C_drew ?_) | exact HR294_1.out)) hb)
  have n10_ := Aside0.mk (below_step (by repeat (first | (with_reducible first | exact HB.out | apply below_alloc | apply pw_below_drewN | apply below_drew1 | refine below_set ?_ GE292.out) | exact HB.out)) hb)
  clear HO0 HL293_1 HL294_1 HO299 HO304 HO307 BK292 HR293_1 HR294_1 HB
  have HO0 := n0_; have HL293_1 := n1_; have HL294_1 := n2_; have HO299 := n3_; have HO304 := n4_; have HO307 := n5_; have HO310 := n6_; have BK292 := n7_; have HR293_1 := n8_; have HR294_1 := n9_; have HB := n10_
  clear n0_ n1_ n2_ n3_ n4_ n5_ n6_ n7_ n8_ n9_ n10_
  try clear hb; try clear hb2; try clear hk; try clear hi; try clear ho0
  refine hK.out _ _ ⟨(blk_cell BK292.out 0).trans rfl, (blk_cell BK292.out 1).trans rfl, (blk_cell BK292.out 2).trans rfl, (blk_cell BK292.out 3).trans rfl, (blk_cell BK292.out 4).trans rfl, (blk_cell BK292.out 5).trans rfl⟩ (fun hHeld => ?_)
  clear hK K
  refine norm_ (a' := ?_) ?_ ?_
  rotate_left
  ·show Act.put _ (some 64) _ = _
   simp only [Act.put, List.setIfInBounds_toArray, List.set_cons_zero, List.set_cons_succ, i64_w, i32_w]
   rfl
  refine pure_ (i := 15) (N := some 8) (v := ?_) (a' := ?_) #[true, true, true, true, true, true, true, true, true, true, true, true, true, true, true, true] rfl rfl (any_of HT_.out (by kernel_rfl)) (fun _ _ _ h => h) (Or.inl ⟨by rfl, ?_⟩) ?_ ?_
  rotate_left
  ·intro w'
   go_simp
   with_reducible rfl
  rotate_left
  ·simp only [Act.put, List.setIfInBounds_toArray, List.set_cons_zero, List.set_cons_succ, i64_w, i32_w]
   rfl
  refine done_ (done_of HT_.out (by kernel_rfl)) ?_
  try go_wp2
  have n0_ := Aside0.mk (Kd.V_drew HO0.out)
  have n1_ := Aside0.mk (Kd.V_drew HL293_1.out)
  have n2_ := Aside0.mk (Kd.V_drew HL294_1.out)
  have n3_ := Aside0.mk (Kd.V_drew HO299.out)
  have n4_ := Aside0.mk (Kd.V_drew HO304.out)
  have n5_ := Aside0.mk (Kd.R_drew HO307.out)
  have n6_ := Aside0.mk (Kd.N_drew HO310.out)
  have n7_ := Aside0.mk (blk_drew BK292.out)
  have n8_ := Aside0.mk (Kd.C_drew HR293_1.out)
  have n9_ := Aside0.mk (Kd.C_drew HR294_1.out)
  have n10_ := Aside0.mk (below_drew1 HB.out)
  clear HO0 HL293_1 HL294_1 HO299 HO304 HO307 HO310 BK292 HR293_1 HR294_1 HB
  have HO0 := n0_; have HL293_1 := n1_; have HL294_1 := n2_; have HO299 := n3_; have HO304 := n4_; have HO307 := n5_; have HO310 := n6_; have BK292 := n7_; have HR293_1 := n8_; have HR294_1 := n9_; have HB := n10_
  clear n0_ n1_ n2_ n3_ n4_ n5_ n6_ n7_ n8_ n9_ n10_
  have q49 : (a1_4 : Int) ≤ ((((rd_T35 l0 a1_3).f1).length : Int) : Int) := of_decide_eq_true (by first | (with_reducible assumption) | assumption)
  obtain ⟨i049, hi049, _, hsz49, _⟩ := info_parts info3
  have hroom49 : ((rd_T35 l0 a1_3).f1).length ≤ c294_1 := HC294_1.out
  have hC49 : Kd.F (Kd.int .i64) _ _ A294_1 ((rd_T35 l0 a1_3).f1).length ((rd_T35 l0 a1_3).f1) := (Kd.V_at (base := w.heap.size) HL294_1.out).2.2
  have hcut49 := cut_to (P := Try.prog) 33 3 .i64 Try.underlying33 hi049 A294_1 ((rd_T35 l0 a1_3).f1).length c294_1 a1_4 (of_decide_eq_true (by first | (with_reducible assumption) | assumption)) q49 hroom49
  have hr49 := Kd.F_take (m := (a1_4 : Int).toNat) hC49 (by omega)
  have hy49 : y311.length = (a1_4 : Int).toNat := (by rw [Ny311.out, List.length_take]; omega)
  rw [← Ny311.out] at hr49
  rw [← hy49] at hcut49
  have HO315 := Aside0.mk (show Kd.V (Kd.int .i64) 3 _ w.heap.size _ (.slice A294_1 y311.length c294_1) y311 from Kd.V_mk (by omega) hr49)
  have HC315 := Aside0.mk (show y311.length ≤ c294_1 from by omega)
  clear hr49 hC49 hroom49 hi049 hsz49
  have KY49 := Aside0.mk hy49
  clear hy49
  replace q49 := eq_true q49
  have q50 : (a1_2 : Int) ≤ ((((rd_T35 l0 a1_1).f1).length : Int) : Int) := of_decide_eq_true (by first | (with_reducible assumption) | assumption)
  obtain ⟨i050, hi050, _, hsz50, _⟩ := info_parts info3
  have hroom50 : ((rd_T35 l0 a1_1).f1).length ≤ c293_1 := HC293_1.out
  have hC50 : Kd.F (Kd.int .i64) _ _ A293_1 ((rd_T35 l0 a1_1).f1).length ((rd_T35 l0 a1_1).f1) := (Kd.V_at (base := w.heap.size) HL293_1.out).2.2
  have q050 : (0 : Int) ≤ (a1_2 : Int) := of_decide_eq_true (by first | (with_reducible assumption) | assumption)
  have hcut50 := cut_from (P := Try.prog) 33 3 .i64 Try.underlying33 hi050 1 hsz50 A293_1 ((rd_T35 l0 a1_1).f1).length c293_1 a1_2 q050 q50
  have hr50 := Kd.F_cut (m := (a1_2 : Int).toNat) (c := c293_1) hC50 (by omega) hroom50
  obtain ⟨A50, hA50⟩ : ∃ A1, A1 = (if c293_1 = (a1_2 : Int).toNat then A293_1 else (A293_1 : Option Addr).map (·.add ((a1_2 : Int).toNat * 1))) := ⟨_, rfl⟩
  obtain ⟨c50, hc50⟩ : ∃ c1, c1 = c293_1 - (a1_2 : Int).toNat := ⟨_, rfl⟩
  have hy50 : y316.length = ((rd_T35 l0 a1_1).f1).length - (a1_2 : Int).toNat := (by rw [Ny316.out, List.length_drop] <;> omega)
  rw [show ((rd_T35 l0 a1_1).f1).drop (a1_2 : Int).toNat = y316 from Ny316.out.symm] at hr50
  replace hr50 : Kd.F (Kd.int .i64) _ _ A50 y316.length y316 := (by rw [hA50]; exact hr50)
  rw [← hy50, ← hA50, ← hc50] at hcut50
  have HO320 := Aside0.mk (show Kd.V (Kd.int .i64) 3 _ w.heap.size _ (.slice A50 y316.length c50) y316 from Kd.V_mk (by rw [hy50, hc50]; exact Nat.sub_le_sub_right hroom50 _) hr50)
  have HC320 := Aside0.mk (show y316.length ≤ c50 from by rw [hy50, hc50]; exact Nat.sub_le_sub_right hroom50 _)
  clear hr50 hC50 hroom50 hi050 hsz50 hc50
  have KY50 := Aside0.mk hy50
  have KA50 := Aside0.mk hA50
  clear hy50 hA50
  replace q50 := eq_true q50
  refine start_ (n := 17) (S := fun w' => w'.cell? ⟨gb292, 0, none⟩ = some (.int .i64 a1_0) ∧ w'.cell? ⟨gb292, 1, none⟩ = some (.int .i64 a1_1) ∧ w'.cell? ⟨gb292, 2, none⟩ = some (.int .i64 a1_2) ∧ w'.cell? ⟨gb292, 3, none⟩ = some (.int .i64 a1_3) ∧ w'.cell? ⟨gb292, 4, none⟩ = some (.int .i64 a1_4) ∧ w'.cell? ⟨gb292, 5, none⟩ = some (.int .i64 a1_5)) (ds := []) #[false, false, false, false, false, false, false, false, false, false, false, false, false, false, false, false, false] (by kernel_rfl) rfl rfl ⟨(blk_cell BK292.out 0).trans rfl, (blk_cell BK292.out 1).trans rfl, (blk_cell BK292.out 2).trans rfl, (blk_cell BK292.out 3).trans rfl, (blk_cell BK292.out 4).trans rfl, (blk_cell BK292.out 5).trans rfl⟩ (fun hHeld => ?_); refine with_tabW haulierref36_tails.tab5 haulierref36_tails.bits5 (fun HT_ HW_ => ?_)
  generalize w47.drew = w48 at HO0 HL293_1 HL294_1 HO299 HO304 HO307 HO310 BK292 HR293_1 HR294_1 HB HO315 HO320 hHeld ⊢
  refine pure_ (i := 0) (N := some 65) (v := ?_) (a' := ?_) #[true, false, false, false, false, false, false, false, false, false, false, false, false, false, false, false, false] rfl rfl (any_of HT_.out (by kernel_rfl)) (fun _ _ _ h => h) (Or.inl ⟨by rfl, ?_⟩) ?_ ?_
  rotate_left
  ·intro w'
   go_simp
   with_reducible rfl
  rotate_left
  ·simp only [Act.put, List.setIfInBounds_toArray, List.set_cons_zero, List.set_cons_succ, i64_w, i32_w]
   rfl
  refine pure_ (i := 1) (N := some 66) (v := ?_) (a' := ?_) #[true, true, false, false, false, false, false, false, false, false, false, false, false, false, false, false, false] rfl rfl (any_of HT_.out (by kernel_rfl)) (fun _ _ _ h => h) (Or.inl ⟨by rfl, ?_⟩) ?_ ?_
  rotate_left
  ·intro w'
   go_simp
   with_reducible rfl
  rotate_left
  ·simp only [Act.put, List.setIfInBounds_toArray, List.set_cons_zero, List.set_cons_succ, i64_w, i32_w]
   rfl
  refine pure_ (i := 3) (N := some 68) (v := ?_) (a' := ?_) #[true, true, false, true, false, false, false, false, false, false, false, false, false, false, false, false, false] rfl rfl (any_of HT_.out (by kernel_rfl)) (fun _ _ _ h => h) (Or.inl ⟨by rfl, ?_⟩) ?_ ?_
  rotate_left
  ·intro w'
   go_simp
   with_reducible rfl
  rotate_left
  ·simp only [Act.put, List.setIfInBounds_toArray, List.set_cons_zero, List.set_cons_succ, i64_w, i32_w]
   rfl
  refine pure_ (i := 4) (N := some 69) (v := ?_) (a' := ?_) #[true, true, false, true, true, false, false, false, false, false, false, false, false, false, false, false, false] rfl rfl (any_of HT_.out (by kernel_rfl)) (fun _ _ _ h => h) (Or.inl ⟨by rfl, ?_⟩) ?_ ?_
  rotate_left
  ·intro w'
   go_simp
   with_reducible rfl
  rotate_left
  ·simp only [Act.put, List.setIfInBounds_toArray, List.set_cons_zero, List.set_cons_succ, i64_w, i32_w]
   rfl
  refine pure_ (i := 7) (N := some 72) (v := ?_) (a' := ?_) #[true, true, false, true, true, false, false, true, false, false, false, false, false, false, false, false, false] rfl rfl (any_of HT_.out (by kernel_rfl)) (fun _ _ _ h => h) (Or.inl ⟨by rfl, ?_⟩) ?_ ?_
  rotate_left
  ·intro w'
   go_simp
   with_reducible rfl
  rotate_left
  ·simp only [Act.put, List.setIfInBounds_toArray, List.set_cons_zero, List.set_cons_succ, i64_w, i32_w]
   rfl
  refine pure_ (i := 9) (N := some 74) (v := ?_) (a' := ?_) #[true, true, false, true, true, false, false, true, false, true, false, false, false, false, false, false, false] rfl rfl (any_of HT_.out (by kernel_rfl)) (fun _ _ _ h => h) (Or.inl ⟨by rfl, ?_⟩) ?_ ?_
  rotate_left
  ·intro w'
   go_simp
   with_reducible rfl
  rotate_left
  ·simp only [Act.put, List.setIfInBounds_toArray, List.set_cons_zero, List.set_cons_succ, i64_w, i32_w]
   rfl
  refine pure_ (i := 10) (N := some 75) (v := ?_) (a' := ?_) #[true, true, false, true, true, false, false, true, false, true, true, false, false, false, false, false, false] rfl rfl (any_of HT_.out (by kernel_rfl)) (fun _ _ _ h => h) (Or.inl ⟨by rfl, ?_⟩) ?_ ?_
  rotate_left
  ·intro w'
   go_simp
   with_reducible rfl
  rotate_left
  ·simp only [Act.put, List.setIfInBounds_toArray, List.set_cons_zero, List.set_cons_succ, i64_w, i32_w]
   rfl
  refine take_ (i := 2) (N := some 67) (v := ?_) (a' := ?_) #[true, true, true, true, true, false, false, true, false, true, true, false, false, false, false, false, false] rfl rfl (take_ofW HT_.out HW_.out (by kernel_rfl)) (fun _ _ _ h => h) (Or.inl ⟨by rfl, ?_⟩) hHeld ?_ ?_
  rotate_left
  ·rintro w' ⟨s0, s1, s2, s3, s4, s5⟩
   go_simp
   with_reducible rfl
  rotate_left
  ·simp only [Act.put, List.setIfInBounds_toArray, List.set_cons_zero, List.set_cons_succ, i64_w, i32_w]
   rfl
  refine take_ (i := 5) (N := some 70) (v := ?_) (a' := ?_) #[true, true, true, true, true, true, false, true, false, true, true, false, false, false, false, false, false] rfl rfl (take_ofW HT_.out HW_.out (by kernel_rfl)) (fun _ _ _ h => h) (Or.inl ⟨by rfl, ?_⟩) hHeld ?_ ?_
  rotate_left
  ·rintro w' ⟨s0, s1, s2, s3, s4, s5⟩
   go_simp
   with_reducible rfl
  rotate_left
  ·simp only [Act.put, List.setIfInBounds_toArray, List.set_cons_zero, List.set_cons_succ, i64_w, i32_w]
   rfl
  refine pure_ (i := 6) (N := some 71) (v := ?_) (a' := ?_) #[true, true, true, true, true, true, true, true, false, true, true, false, false, false, false, false, false] rfl rfl (any_of HT_.out (by kernel_rfl)) (fun _ _ _ h => h) (Or.inl ⟨by rfl, ?_⟩) ?_ ?_
  rotate_left
  ·intro w'
   go_simp
   with_reducible rfl
  rotate_left
  ·simp only [Act.put, List.setIfInBounds_toArray, List.set_cons_zero, List.set_cons_succ, i64_w, i32_w]
   rfl
  refine take_ (i := 8) (N := some 73) (v := ?_) (a' := ?_) #[true, true, true, true, true, true, true, true, true, true, true, false, false, false, false, false, false] rfl rfl (take_ofW HT_.out HW_.out (by kernel_rfl)) (fun _ _ _ h => h) (Or.inl ⟨by rfl, ?_⟩) hHeld ?_ ?_
  rotate_left
  ·rintro w' ⟨s0, s1, s2, s3, s4, s5⟩
   go_simp
   with_reducible rfl
  rotate_left
  ·simp only [Act.put, List.setIfInBounds_toArray, List.set_cons_zero, List.set_cons_succ, i64_w, i32_w]
   rfl
  refine take_ (i := 11) (N := some 76) (v := ?_) (a' := ?_) #[true, true, true, true, true, true, true, true, true, true, true, true, false, false, false, false, false] rfl rfl (take_ofW HT_.out HW_.out (by kernel_rfl)) (fun _ _ _ h => h) (Or.inl ⟨by rfl, ?_⟩) hHeld ?_ ?_
  rotate_left
  ·rintro w' ⟨s0, s1, s2, s3, s4, s5⟩
   go_simp
   with_reducible rfl
  rotate_left
  ·simp only [Act.put, List.setIfInBounds_toArray, List.set_cons_zero, List.set_cons_succ, i64_w, i32_w]
   rfl
  refine pure_ (i := 12) (N := some 77) (v := ?_) (a' := ?_) #[true, true, true, true, true, true, true, true, true, true, true, true, true, false, false, false, false] rfl rfl (any_of HT_.out (by kernel_rfl)) (fun _ _ _ h => h) (Or.inl ⟨by rfl, ?_⟩) ?_ ?_
  rotate_left
  ·intro w'
   go_simp
   with_reducible rfl
  rotate_left
  ·simp only [Act.put, List.setIfInBounds_toArray, List.set_cons_zero, List.set_cons_succ, i64_w, i32_w]
   rfl
  refine one_ (i := 13) (N := some 78) #[true, true, true, true, true, true, true, true, true, true, true, true, true, true, false, false, false] rfl rfl (one_of HT_.out (by kernel_rfl)) (by decide) (fun K hK => ?_)
  refine goes_ Try.func45 (by kernel_rfl) rfl #[.slice A294_1 y311.length c294_1, .int .i64 a1_4, .slice A50 y316.length c50] (by rfl) rfl rfl (by (try simp only [List.map_toArray, List.map_cons, List.map_nil]); first | done | rfl | (simp only [List.length_drop, List.length_take]; rfl)) ?_
  with_reducible refine (haulierref36_put.calls _ _ y311 a1_4 _ _ y316 t321 _ ?side1 ?side2 ?side3 ?side4 A37.out).mono ?_
  (case side1 => repeat (first | exact (Kd.V_reads' HO315.out).2.2 | (with_reducible refine Kd.C_alloc ?_ _) | (with_reducible refine Kd.C_drewN ?_ _) | (with_reducible refine Kd.C_drew ?_)))
  (case side2 => exact (Kd.V_reads' HO315.out).2.1)
  (case side3 => repeat (first | exact (Kd.V_reads' HO320.out).2.2 | (with_reducible refine Kd.C_alloc ?_ _) | (with_reducible refine Kd.C_drewN ?_ _) | (with_reducible refine Kd.C_drew ?_)))
  (case side4 => exact (Kd.V_reads' HO320.out).2.1)
  rintro e w51 ⟨v322, rfl, ho0, hb⟩
  refine ⟨_, rfl, ?_⟩
  have n0_ := Aside0.mk (Kd.V_elder' (by (with_reducible repeat (first | apply Kd.V_alloc | apply Kd.V_drewN | apply Kd.V_drew)); exact HO0.out) (Kd.R_base ho0) hb)
  have n1_ := Aside0.mk (Kd.V_elder' (by (with_reducible repeat (first | apply Kd.V_alloc | apply Kd.V_drewN | apply Kd.V_drew)); exact HL293_1.out) (Kd.R_base ho0) hb)
  have n2_ := Aside0.mk (Kd.V_elder' (by (with_reducible repeat (first | apply Kd.V_alloc | apply Kd.V_drewN | apply Kd.V_drew)); exact HL294_1.out) (Kd.R_base ho0) hb)
  have n3_ := Aside0.mk (Kd.V_elder' (by (with_reducible repeat (first | apply Kd.V_alloc | apply Kd.V_drewN | apply Kd.V_drew)); exact HO299.out) (Kd.R_base ho0) hb)
  have n4_ := Aside0.mk (Kd.V_elder' (by (with_reducible repeat (first | apply Kd.V_alloc | apply Kd.V_drewN | apply Kd.V_drew)); exact HO304.out) (Kd.R_base ho0) hb)
  have n5_ := Aside0.mk (Kd.R_elder' (by (with_reducible repeat (first | apply Kd.R_alloc | apply Kd.R_drewN | apply Kd.R_drew)); exact HO307.out) (Kd.R_base ho0) hb)
  have n6_ := Aside0.mk (Kd.N_elder' (by (with_reducible repeat (first | apply Kd.N_alloc | apply Kd.N_drewN | apply Kd.N_drew)); exact HO310.out) (Kd.R_base ho0) hb)
  have n7_ := Aside0.mk (Kd.V_elder' (by (with_reducible repeat (first | apply Kd.V_alloc | apply Kd.V_drewN | apply Kd.V_drew)); exact HO315.out) (Kd.R_base ho0) hb)
  have n8_ := Aside0.mk (Kd.V_elder' (by (with_reducible repeat (first | apply Kd.V_alloc | apply Kd.V_drewN | apply Kd.V_drew)); exact HO320.out) (Kd.R_base ho0) hb)
  have n9_ := Aside0.mk (Kd.R_lower (Kd.R_new' (Kd.R_newM (M := fun k_ => (w.heap.size ≤ k_)) ho0 (below_size (by repeat (first | (with_reducible first | exact HB.out | apply below_alloc | apply pw_below_drewN | apply below_drew1 | refine below_set ?_ GE292.out) | exact HB.out))) (fun k_ h_ => h_)) (Kd.R_lt (by (with_reducible repeat (first | apply Kd.R_alloc | apply Kd.R_drewN | apply Kd.R_drew)); exact HO307.out))) (below_size (by repeat (first | (with_reducible first | exact HB.out | apply below_alloc | apply pw_below_drewN | apply below_drew1 | refine below_set ?_ GE292.out) | exact HB.out))))
  have n10_ := Aside0.mk (blk_below (g := gb292) (o := .cells #[.int .i64 a1_0, .int .i64 a1_1, .int .i64 a1_2, .int .i64 a1_3, .int .i64 a1_4, .int .i64 a1_5] 24 (0, 0)) (by (with_reducible repeat (first | refine blk_drewN ?_ _ | refine blk_drew ?_ | refine blk_alloc ?_ _)); exact BK292.out) hb)
  have n11_ := Aside0.mk (Kd.C_below (by repeat (first | (with_reducible exact HR293_1.out) | (with_reducible refine Kd.C_alloc ?_ _) | (with_reducible refine Kd.C_drewN ?_ _) | (with_reducible refine Kd.C_drew ?_) | exact HR293_1.out)) hb)
  have n12_ := Aside0.mk (Kd.C_below (by repeat (first | (with_reducible exact HR294_1.out) | (with_reducible refine Kd.C_alloc ?_ _) | (with_reducible refine Kd.C_drewN ?_ _) | (with_reducible refine Kd.C_drew ?_) | exact HR294_1.out)) hb)
  have n13_ := Aside0.mk (below_step (by repeat (first | (with_reducible first | exact HB.out | apply below_alloc | apply pw_below_drewN | apply below_drew1 | refine below_set ?_ GE292.out) | exact HB.out)) hb)
  clear HO0 HL293_1 HL294_1 HO299 HO304 HO307 HO310 HO315 HO320 BK292 HR293_1 HR294_1 HB
  have HO0 := n0_; have HL293_1 := n1_; have HL294_1 := n2_; have HO299 := n3_; have HO304 := n4_; have HO307 := n5_; have HO310 := n6_; have HO315 := n7_; have HO320 := n8_; have HO323 := n9_; have BK292 := n10_; have HR293_1 := n11_; have HR294_1 := n12_; have HB := n13_
  clear n0_ n1_ n2_ n3_ n4_ n5_ n6_ n7_ n8_ n9_ n10_ n11_ n12_ n13_
  try clear hb; try clear hb2; try clear hk; try clear hi; try clear ho0
  obtain ⟨Ao52, co52, eo52⟩ := Kd.N_slice HO310.out
  (first | subst eo52 | (injection eo52 with f1_ f2_ f3_; have f4_ := f1_.symm; have f5_ := f3_.symm; clear f1_ f2_ f3_; subst f4_; subst f5_))
  obtain ⟨Ao53, co53, eo53⟩ := Kd.R_slice HO323.out
  (first | subst eo53 | (injection eo53 with f1_ f2_ f3_; have f4_ := f1_.symm; have f5_ := f3_.symm; clear f1_ f2_ f3_; subst f4_; subst f5_))
  refine hK.out _ _ ⟨(blk_cell BK292.out 0).trans rfl, (blk_cell BK292.out 1).trans rfl, (blk_cell BK292.out 2).trans rfl, (blk_cell BK292.out 3).trans rfl, (blk_cell BK292.out 4).trans rfl, (blk_cell BK292.out 5).trans rfl⟩ (fun hHeld => ?_)
  clear hK K
  refine norm_ (a' := ?_) ?_ ?_
  rotate_left
  ·show Act.put _ (some 78) _ = _
   simp only [Act.put, List.setIfInBounds_toArray, List.set_cons_zero, List.set_cons_succ, i64_w, i32_w]
   rfl
  refine one_ (i := 14) (N := some 79) #[true, true, true, true, true, true, true, true, true, true, true, true, true, true, true, false, false] rfl rfl (one_of HT_.out (by kernel_rfl)) (by decide) (fun K hK => ?_)
  refine goes_ Try.func43 (by kernel_rfl) rfl #[.slice Ao52 t308.length co52, .int .i64 a1_3, .slice Ao53 t321.length co53] (by rfl) rfl rfl (by (try simp only [List.map_toArray, List.map_cons, List.map_nil]); first | done | rfl | (simp only [List.length_drop, List.length_take]; rfl)) ?_
  with_reducible refine (haulierref36_with.calls k (fun k_ => (((P0_ k_ ∨ w.heap.size ≤ k_) ∧ k_ ≠ gb292) ∧ some k_ ≠ (.slice Ao53 t321.length co53 : Value).ownBlock)) _ _ t308 a1_3 (fun k_ => some k_ = (.slice Ao53 t321.length co53 : Value).ownBlock) _ _ t321 t324 _ ?side1 ?side2 A38.out).mono ?_
  (case side1 => exact Kd.N_V (HO310.out))
  (case side2 => exact Kd.R_V (Kd.R_tight rfl (Kd.R_types (Kd.R_apart' (HO323.out) (Kd.N_typed HO310.out) (by decide)) BK292.out (by decide))))
  rintro e w54 ⟨v325, rfl, ho0, hb⟩
  refine ⟨_, rfl, ?_⟩
  have n0_ := Aside0.mk (Kd.V_elder' (by (with_reducible repeat (first | apply Kd.V_alloc | apply Kd.V_drewN | apply Kd.V_drew)); exact HO0.out) (Kd.N_base ho0) hb)
  have n1_ := Aside0.mk (Kd.V_elder' (by (with_reducible repeat (first | apply Kd.V_alloc | apply Kd.V_drewN | apply Kd.V_drew)); exact HL293_1.out) (Kd.N_base ho0) hb)
  have n2_ := Aside0.mk (Kd.V_elder' (by (with_reducible repeat (first | apply Kd.V_alloc | apply Kd.V_drewN | apply Kd.V_drew)); exact HL294_1.out) (Kd.N_base ho0) hb)
  have n3_ := Aside0.mk (Kd.V_elder' (by (with_reducible repeat (first | apply Kd.V_alloc | apply Kd.V_drewN | apply Kd.V_drew)); exact HO299.out) (Kd.N_base ho0) hb)
  have n4_ := Aside0.mk (Kd.V_elder' (by (with_reducible repeat (first | apply Kd.V_alloc | apply Kd.V_drewN | apply Kd.V_drew)); exact HO304.out) (Kd.N_base ho0) hb)
  have n5_ := Aside0.mk (Kd.R_below (by (with_reducible repeat (first | apply Kd.R_alloc | apply Kd.R_drewN | apply Kd.R_drew)); exact HO307.out) hb)
  have n6_ := Aside0.mk (Kd.N_elder' (by (with_reducible repeat (first | apply Kd.N_alloc | apply Kd.N_drewN | apply Kd.N_drew)); exact HO310.out) (Kd.N_base ho0) hb)
  have n7_ := Aside0.mk (Kd.V_elder' (by (with_reducible repeat (first | apply Kd.V_alloc | apply Kd.V_drewN | apply Kd.V_drew)); exact HO315.out) (Kd.N_base ho0) hb)
  have n8_ := Aside0.mk (Kd.V_elder' (by (with_reducible repeat (first | apply Kd.V_alloc | apply Kd.V_drewN | apply Kd.V_drew)); exact HO320.out) (Kd.N_base ho0) hb)
  have n9_ := Aside0.mk (Kd.R_below (by (with_reducible repeat (first | apply Kd.R_alloc | apply Kd.R_drewN | apply Kd.R_drew)); exact HO323.out) hb)
  have n10_ := Aside0.mk (Kd.N_lower (Kd.N_mono (ok' := fun k_ => (P0_ k_ ∨ w.heap.size ≤ k_) ∧ k_ ≠ gb292) ho0 (fun k_ hk_ => ⟨Or.elim hk_ (fun hs_ => Or.elim hs_ (fun hs_ => hs_.1.1) (fun hs_ => (.inr (((Kd.R_types (Kd.R_apart' (HO323.out) (Kd.N_typed HO310.out) (by decide)) BK292.out (by decide)).1 k_ hs_.symm).1.1.1.1)))) (fun hn_ => (.inr (Nat.le_trans (below_size (by repeat (first | (with_reducible first | exact HB.out | apply below_alloc | apply pw_below_drewN | apply below_drew1 | refine below_set ?_ GE292.out) | exact HB.out))) hn_))), Or.elim hk_ (fun hs_ => Or.elim hs_ (fun hs_ => hs_.1.2) (fun hs_ => ((Kd.R_types (Kd.R_apart' (HO323.out) (Kd.N_typed HO310.out) (by decide)) BK292.out (by decide)).1 k_ hs_.symm).2)) (fun hn_ => (Kd.freshB (g := gb292) (o := .cells #[.int .i64 a1_0, .int .i64 a1_1, .int .i64 a1_2, .int .i64 a1_3, .int .i64 a1_4, .int .i64 a1_5] 24 (0, 0)) (by (with_reducible repeat (first | refine blk_drewN ?_ _ | refine blk_drew ?_ | refine blk_alloc ?_ _)); exact BK292.out) k_ hn_))⟩)) (below_size (by repeat (first | (with_reducible first | exact HB.out | apply below_alloc | apply pw_below_drewN | apply below_drew1 | refine below_set ?_ GE292.out) | exact HB.out))))
  have n11_ := Aside0.mk (blk_below (g := gb292) (o := .cells #[.int .i64 a1_0, .int .i64 a1_1, .int .i64 a1_2, .int .i64 a1_3, .int .i64 a1_4, .int .i64 a1_5] 24 (0, 0)) (by (with_reducible repeat (first | refine blk_drewN ?_ _ | refine blk_drew ?_ | refine blk_alloc ?_ _)); exact BK292.out) hb)
  have n12_ := Aside0.mk (Kd.C_below (by repeat (first | (with_reducible exact HR293_1.out) | (with_reducible refine Kd.C_alloc ?_ _) | (with_reducible refine Kd.C_drewN ?_ _) | (with_reducible refine Kd.C_drew ?_) | exact HR293_1.out)) hb)
  have n13_ := Aside0.mk (Kd.C_below (by repeat (first | (with_reducible exact HR294_1.out) | (with_reducible refine Kd.C_alloc ?_ _) | (with_reducible refine Kd.C_drewN ?_ _) | (with_reducible refine Kd.C_drew ?_) | exact HR294_1.out)) hb)
  have n14_ := Aside0.mk (below_step (by repeat (first | (with_reducible first | exact HB.out | apply below_alloc | apply pw_below_drewN | apply below_drew1 | refine below_set ?_ GE292.out) | exact HB.out)) hb)
  clear HO0 HL293_1 HL294_1 HO299 HO304 HO307 HO310 HO315 HO320 HO323 BK292 HR293_1 HR294_1 HB
  have HO0 := n0_; have HL293_1 := n1_; have HL294_1 := n2_; have HO299 := n3_; have HO304 := n4_; have HO307 := n5_; have HO310 := n6_; have HO315 := n7_; have HO320 := n8_; have HO323 := n9_; have HO326 := n10_; have BK292 := n11_; have HR293_1 := n12_; have HR294_1 := n13_; have HB := n14_
  clear n0_ n1_ n2_ n3_ n4_ n5_ n6_ n7_ n8_ n9_ n10_ n11_ n12_ n13_ n14_
  try clear hb; try clear hb2; try clear hk; try clear hi; try clear ho0
  refine hK.out _ _ ⟨(blk_cell BK292.out 0).trans rfl, (blk_cell BK292.out 1).trans rfl, (blk_cell BK292.out 2).trans rfl, (blk_cell BK292.out 3).trans rfl, (blk_cell BK292.out 4).trans rfl, (blk_cell BK292.out 5).trans rfl⟩ (fun hHeld => ?_)
  clear hK K
  refine norm_ (a' := ?_) ?_ ?_
  rotate_left
  ·show Act.put _ (some 79) _ = _
   simp only [Act.put, List.setIfInBounds_toArray, List.set_cons_zero, List.set_cons_succ, i64_w, i32_w]
   rfl
  refine pure_ (i := 15) (N := some 4) (v := ?_) (a' := ?_) #[true, true, true, true, true, true, true, true, true, true, true, true, true, true, true, true, false] rfl rfl (any_of HT_.out (by kernel_rfl)) (fun _ _ _ h => h) (Or.inl ⟨by rfl, ?_⟩) ?_ ?_
  rotate_left
  ·intro w'
   go_simp
   with_reducible rfl
  rotate_left
  ·simp only [Act.put, List.setIfInBounds_toArray, List.set_cons_zero, List.set_cons_succ, i64_w, i32_w]
   rfl
  refine pure_ (i := 16) (N := some 5) (v := ?_) (a' := ?_) #[true, true, true, true, true, true, true, true, true, true, true, true, true, true, true, true, true] rfl rfl (any_of HT_.out (by kernel_rfl)) (fun _ _ _ h => h) (Or.inl ⟨by rfl, ?_⟩) ?_ ?_
  rotate_left
  ·intro w'
   go_simp
   with_reducible rfl
  rotate_left
  ·simp only [Act.put, List.setIfInBounds_toArray, List.set_cons_zero, List.set_cons_succ, i64_w, i32_w]
   rfl
  refine done_ (done_of HT_.out (by kernel_rfl)) ?_
  try go_wp2
  go_ret2
  exact ⟨_, by first | rfl | (simp [errW_none, errW_some] <;> rfl) | (simp [*, errW_none, errW_some] <;> rfl), by (with_reducible repeat (first | apply Kd.N_alloc | apply Kd.N_drewN | apply Kd.N_drew)); exact Kd.N_mono HO326.out (fun _ hk => hk.1), by repeat (first | (with_reducible first | exact HB.out | apply below_alloc | apply pw_below_drewN | apply below_drew1 | refine below_set ?_ GE292.out) | exact HB.out)⟩
end Go.Proofs.Ytcofibbgdnbejaa.MMoveAll
