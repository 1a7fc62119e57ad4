/- Written by a program of this session: Go functions that the law ViewEach reaches, as Lean functions, each with a proof that the Go code comes to just what it says; every input of the kinds that a contract names. -/
import Derived.Test.YtegmofaiobdilaaMViewEachx0
import Derived.Test.YtegmofaiobdilaaMViewEachx1
import Derived.Test.YtegmofaiobdilaaMViewEachx2
namespace Go.Proofs.Ytegmofaiobdilaa.MViewEach
open Go.RowKit Go.Proofs.YtegmofaiobdilaaW.PrintWords Go.Proofs.YtegmofaiobdilaaW.PrintLast Go.Proofs.YtegmofaiobdilaaW.PrintMore
attribute [local go_sem] max2_int min2_int max_two min_two max_three min_three max_four min_four   -- for this text's walks alone
set_option linter.unusedVariables false
set_option linter.unusedSimpArgs false
set_option linter.unnecessarySimpa false

/-! ### haulierref08_Kinds: function 10 -/
mutual
def haulierref08_Kinds.l0 : Nat → List (S50) → List Int → Int → Option (List Int)
  | 0, _, _, _ => none
  | k + 1, x0, x3, x4 => if x4 < (x0.length : Int) then (if 0 ≤ x4 then (haulierref08_Kinds.l1 k x0 x3 x4 ((rd_T50 x0 x4).f1)) else (none)) else (some x3)
def haulierref08_Kinds.l1 : Nat → List (S50) → List Int → Int → Int → Option (List Int)
  | 0, _, _, _, _ => none
  | k + 1, x0, x3, x4, x5 => if 0 ≤ x4 then (if x4 < (x0.length : Int) then (if x5 < ((rd_T50 x0 x4).f2) then (if x3.length < 17592186044416 then (haulierref08_Kinds.l1 k x0 (x3 ++ [(rd_T50 x0 x4).f0]) x4 (wrap64 (x5 + 1))) else (none)) else (haulierref08_Kinds.l0 k x0 x3 (wrap64 (x4 + 1)))) else (none)) else (none)
end
def haulierref08_Kinds.f (k : Nat) (l0 : List (S50)) : Option (List Int) := haulierref08_Kinds.l0 k l0 ([] : List Int) 0
theorem haulierref08_Kinds.mono_l : ∀ k, (∀ y0 y1 y2, LeO (haulierref08_Kinds.l0 k y0 y1 y2) (haulierref08_Kinds.l0 (k + 1) y0 y1 y2)) ∧ (∀ y0 y1 y2 y3, LeO (haulierref08_Kinds.l1 k y0 y1 y2 y3) (haulierref08_Kinds.l1 (k + 1) y0 y1 y2 y3))
  | 0 => ⟨fun _ _ _ r h => by simp [haulierref08_Kinds.l0] at h, fun _ _ _ _ r h => by simp [haulierref08_Kinds.l1] at h⟩
  | k + 1 => by
    obtain ⟨ih0, ih1⟩ := haulierref08_Kinds.mono_l k
    refine ⟨?_, ?_⟩
    · intro y0 y1 y2
      unfold haulierref08_Kinds.l0
      repeat' first
      | (with_reducible exact ih0 _ _ _)
      | (with_reducible exact ih1 _ _ _ _)
      | (with_reducible exact LeO.refl _)
      | (with_reducible exact LeO.none _)
      | (with_reducible refine LeO.ite ?_ ?_)
      | (with_reducible refine LeO.bind ?_ (fun _ => ?_))
      | exact ih0 _ _ _
      | exact ih1 _ _ _ _
      | exact LeO.none _
      | refine LeO.ite ?_ ?_
      | refine LeO.bind ?_ (fun _ => ?_)
    · intro y0 y1 y2 y3
      unfold haulierref08_Kinds.l1
      repeat' first
      | (with_reducible exact ih0 _ _ _)
      | (with_reducible exact ih1 _ _ _ _)
      | (with_reducible exact LeO.refl _)
      | (with_reducible exact LeO.none _)
      | (with_reducible refine LeO.ite ?_ ?_)
      | (with_reducible refine LeO.bind ?_ (fun _ => ?_))
      | exact ih0 _ _ _
      | exact ih1 _ _ _ _
      | exact LeO.none _
      | refine LeO.ite ?_ ?_
      | refine LeO.bind ?_ (fun _ => ?_)
theorem haulierref08_Kinds.mono : ∀ a0 k, LeO (haulierref08_Kinds.f k a0) (haulierref08_Kinds.f (k + 1) a0) := by
  intro a0 k
  obtain ⟨ih0, ih1⟩ := haulierref08_Kinds.mono_l k
  unfold haulierref08_Kinds.f
  repeat' first
      | (with_reducible exact ih0 _ _ _)
      | (with_reducible exact ih1 _ _ _ _)
      | (with_reducible exact LeO.refl _)
      | (with_reducible exact LeO.none _)
      | (with_reducible refine LeO.ite ?_ ?_)
      | (with_reducible refine LeO.bind ?_ (fun _ => ?_))
      | exact ih0 _ _ _
      | exact ih1 _ _ _ _
      | exact LeO.none _
      | refine LeO.ite ?_ ?_
      | refine LeO.bind ?_ (fun _ => ?_)
set_option maxHeartbeats 8000000 in
set_option maxRecDepth 100000 in
theorem haulierref08_Kinds.calls (k : Nat) (A0 : Option Addr) (c0 : Nat) (l0 : List (S50)) (r : List Int) (w : World) (hr0 : Kd.C k50 w A0 l0.length l0) (hc0 : l0.length ≤ c0) (h : haulierref08_Kinds.f k l0 = some r) :
    Calls Try.prog 10 #[.slice A0 l0.length c0] w fun e w' => ∃ v0_ : Value, e = .returned (v0_) ∧ Kd.R (Kd.int .i64) 3 w' w.heap.size (fun _ => True) v0_ r ∧ Below w.heap.size w w' := by
  have HR0 := Aside0.mk hr0
  have HC0 := Aside0.mk hc0
  clear hr0 hc0
  have HB := Aside0.mk (Below.refl w.heap.size w)
  have H : (haulierref08_Kinds.l0 k l0 ([] : List Int) 0) = some r := h
  clear h
  have H' := Aside0.mk H
  clear H
  go_enter Try.func10, Try.ntmps10
  go_wp2
  go_loopg [3, 4] k (fun kq v3 v4 w' => ∃ (x3_1 : List Int) (x4_1 : Int), v4 = .int .i64 x4_1 ∧ Aside0 (haulierref08_Kinds.l0 kq l0 x3_1 x4_1 = some r) ∧ Aside0 (kq ≤ k) ∧ Aside0 (Kd.R (Kd.int .i64) 3 w' w.heap.size (fun _ => True) v3 x3_1) ∧ Aside0 (Below w.heap.size w w'))
  case atStart => exact ⟨(([] : List Int)), (0), (by first | rfl | (simp; done) | (simp [*]; done)), H', ⟨Nat.le_refl _⟩, ⟨by first | exact Kd.R_nil _ _ _ _ _ | exact Kd.N_nil _ _ _ _ _ | exact Kd.V_nil _ _ _ _ _ | exact Kd.Q_nil _ _ _ _ _ | exact Kd.S_nil _ _ _ _ _⟩, ⟨by repeat (first | (with_reducible first | exact HB.out | apply below_alloc | apply pw_below_drewN | apply below_drew1) | exact HB.out)⟩⟩
  case round =>
    clear H'
    try clear c1
    obtain ⟨x3_1, x4_1, rfl, HA, HK1, HO_3, HB⟩ := hrel
    cases gk with
    | zero => exact absurd HA.out (by simp [haulierref08_Kinds.l0])
    | succ k1 =>
      have H := HA.out
      clear HA
      simp only [haulierref08_Kinds.l0] at H
      by_cases c2 : x4_1 < (l0.length : Int)
      · rw [if_pos c2] at H
        have c2b0 : decide (x4_1 < (l0.length : Int)) = true := decide_eq_true c2
        clear c2
        by_cases c3 : 0 ≤ x4_1
        · rw [if_pos c3] at H
          have c3b0 : decide (0 ≤ x4_1) = true := decide_eq_true c3
          clear c3
          have H' := Aside0.mk H
          clear H
          have p123 : 0 ≤ (x4_1 : Int) := of_decide_eq_true (by first | (with_reducible assumption) | assumption)
          have q123 : x4_1 < (l0.length : Int) := of_decide_eq_true (by first | (with_reducible assumption) | assumption)
          obtain ⟨ad123, e123, hx123_0, hx123_1, hx123_2⟩ := at_T50 HR0.out x4_1 p123 q123
          cases e123
          try replace hx123_0 := (HB.out.cell (World.block_lt_of_cell? w _ hx123_0)).trans hx123_0
          try replace hx123_1 := (HB.out.cell (World.block_lt_of_cell? w _ hx123_1)).trans hx123_1
          try replace hx123_2 := (HB.out.cell (World.block_lt_of_cell? w _ hx123_2)).trans hx123_2
          replace p123 := eq_true p123
          replace q123 := eq_true q123
          go_wp2
          go_loopg [3, 5] k1 (fun kq v3 v5 w' => ∃ (x3_2 : List Int) (x5_2 : Int), v5 = .int .i64 x5_2 ∧ Aside0 (haulierref08_Kinds.l1 kq l0 x3_2 x4_1 x5_2 = some r) ∧ Aside0 (kq ≤ k1) ∧ Aside0 (Kd.R (Kd.int .i64) 3 w' w.heap.size (fun _ => True) v3 x3_2) ∧ Aside0 (Below w.heap.size w w'))
          case atStart => exact ⟨(x3_1), ((rd_T50 l0 x4_1).f1), (by first | rfl | (simp; done) | (simp [*]; done)), H', ⟨Nat.le_refl _⟩, ⟨by (with_reducible repeat (first | apply Kd.R_alloc | apply Kd.R_drewN | apply Kd.R_drew)); exact HO_3.out⟩, ⟨by repeat (first | (with_reducible first | exact HB.out | apply below_alloc | apply pw_below_drewN | apply below_drew1) | exact HB.out)⟩⟩
          case round =>
            clear H'
            try clear c1
            try clear p1
            try clear q1
            try clear hx1
            try clear c2
            try clear c2b0
            try clear p2
            try clear c3
            try clear c3b0
            try clear hx123_0
            try clear hx123_1
            try clear hx123_2
            try clear p123
            try clear q123
            obtain ⟨x3_2, x5_2, rfl, HA, HK2, HO_3, HB⟩ := hrel
            cases gk with
            | zero => exact absurd HA.out (by simp [haulierref08_Kinds.l1])
            | succ k2 =>
              have H := HA.out
              clear HA
              simp only [haulierref08_Kinds.l1] at H
              by_cases c4 : 0 ≤ x4_1
              · rw [if_pos c4] at H
                have c4b0 : decide (0 ≤ x4_1) = true := decide_eq_true c4
                clear c4
                by_cases c5 : x4_1 < (l0.length : Int)
                · rw [if_pos c5] at H
                  have c5b0 : decide (x4_1 < (l0.length : Int)) = true := decide_eq_true c5
                  clear c5
                  by_cases c6 : x5_2 < ((rd_T50 l0 x4_1).f2)
                  · rw [if_pos c6] at H
                    have c6b0 : decide (x5_2 < ((rd_T50 l0 x4_1).f2)) = true := decide_eq_true c6
                    clear c6
                    by_cases c7 : x3_2.length < 17592186044416
                    · rw [if_pos c7] at H
                      have LMc7 := Aside0.mk c7
                      clear c7
                      obtain ⟨y126, hy126⟩ : ∃ y_ : List Int, y_ = (x3_2 ++ [(rd_T50 l0 x4_1).f0]) := ⟨_, rfl⟩
                      replace H : (haulierref08_Kinds.l1 k2 l0 y126 x4_1 (wrap64 (x5_2 + 1))) = some r := by first | (rw [hy126]; with_reducible exact H) | (have H2_ := (Option.bind_some _ _).symm.trans H; rw [hy126]; with_reducible exact H2_) | (have H2_ := (Option.bind_some _ _).symm.trans H; with_reducible exact H2_) | with_reducible exact H | (rw [hy126]; exact H) | exact H
                      have Ny126 := Aside0.mk hy126
                      clear hy126
                      have H' := Aside0.mk H
                      clear H
                      have p124 : 0 ≤ (x4_1 : Int) := of_decide_eq_true (by first | (with_reducible assumption) | assumption)
                      have q124 : x4_1 < (l0.length : Int) := of_decide_eq_true (by first | (with_reducible assumption) | assumption)
                      obtain ⟨ad124, e124, hx124_0, hx124_1, hx124_2⟩ := at_T50 HR0.out x4_1 p124 q124
                      obtain rfl : ad123 = ad124 := (by injection e124)
                      try replace hx124_0 := (HB.out.cell (World.block_lt_of_cell? w _ hx124_0)).trans hx124_0
                      try replace hx124_1 := (HB.out.cell (World.block_lt_of_cell? w _ hx124_1)).trans hx124_1
                      try replace hx124_2 := (HB.out.cell (World.block_lt_of_cell? w _ hx124_2)).trans hx124_2
                      replace p124 := eq_true p124
                      replace q124 := eq_true q124
                      have p125 : 0 ≤ (x4_1 : Int) := of_decide_eq_true (by first | (with_reducible assumption) | assumption)
                      have q125 : x4_1 < (l0.length : Int) := of_decide_eq_true (by first | (with_reducible assumption) | assumption)
                      obtain ⟨ad125, e125, hx125_0, hx125_1, hx125_2⟩ := at_T50 HR0.out x4_1 p125 q125
                      obtain rfl : ad123 = ad125 := (by injection e125)
                      try replace hx125_0 := (HB.out.cell (World.block_lt_of_cell? w _ hx125_0)).trans hx125_0
                      try replace hx125_1 := (HB.out.cell (World.block_lt_of_cell? w _ hx125_1)).trans hx125_1
                      try replace hx125_2 := (HB.out.cell (World.block_lt_of_cell? w _ hx125_2)).trans hx125_2
                      replace p125 := eq_true p125
                      replace q125 := eq_true q125
                      go_wp2_with (first | ((with_reducible refine gate_builtin (b := .append) (xs := #[.tmp 26, .tmp 32]) rfl ?_); at_builtin; refine Kd.R_append (Kd.int .i64) (w0 := w) w.heap.size rfl (.tmp 26) (.tmp 32) 25 3 (.int .i64 0) 8 rfl Try.underlying25 info3 rfl (by decide) (by omega) u3 x3_2 ((rd_T50 l0 x4_1).f0) [.int .i64 ((rd_T50 l0 x4_1).f0)] (fun _ => True) (fun _ => False) rfl rfl ?aP (fun _ hk => hk.elim) ?aF ?aO ?aB ?aS ?aL ?_; (case aP => exact rfl); (case aB => exact (by repeat (first | (with_reducible first | exact HB.out | apply below_alloc | apply pw_below_drewN | apply below_drew1) | exact HB.out))); (case aF => exact (fun _ _ => trivial)); (case aO => exact (by (with_reducible repeat (first | apply Kd.R_alloc | apply Kd.R_drewN | apply Kd.R_drew)); exact HO_3.out)); (case aS => exact (below_size (by repeat (first | (with_reducible first | exact HB.out | apply below_alloc | apply pw_below_drewN | apply below_drew1) | exact HB.out)))); (case aL => have := LMc7.out; omega); intro v127 w8 ho hb hg hat; rw [← Ny126.out] at ho; have n0_ := Aside0.mk (hb); have n1_ := Aside0.mk (ho); clear HB; clear HO_3; have HB := n0_; have HO128 := n1_; clear n0_ n1_; clear ho hb hg hat))
                      go_roundg k2
                      case measure => have := HK1.out; have := HK2.out; omega
                      case rel => exact ⟨(y126), (wrap64 (x5_2 + 1)), (by first | rfl | (simp; done) | (simp [*]; done)), H', ⟨by have := HK1.out; have := HK2.out; omega⟩, ⟨by (with_reducible repeat (first | apply Kd.R_alloc | apply Kd.R_drewN | apply Kd.R_drew)); exact HO128.out⟩, ⟨by repeat (first | (with_reducible first | exact HB.out | apply below_alloc | apply pw_below_drewN | apply below_drew1) | exact HB.out)⟩⟩
                    · rw [if_neg c7] at H
                      exact absurd H (by simp)
                  · rw [if_neg c6] at H
                    have c6b0 : decide (x5_2 < ((rd_T50 l0 x4_1).f2)) = false := decide_eq_false c6
                    clear c6
                    have H' := Aside0.mk H
                    clear H
                    have p124 : 0 ≤ (x4_1 : Int) := of_decide_eq_true (by first | (with_reducible assumption) | assumption)
                    have q124 : x4_1 < (l0.length : Int) := of_decide_eq_true (by first | (with_reducible assumption) | assumption)
                    obtain ⟨ad124, e124, hx124_0, hx124_1, hx124_2⟩ := at_T50 HR0.out x4_1 p124 q124
                    obtain rfl : ad123 = ad124 := (by injection e124)
                    try replace hx124_0 := (HB.out.cell (World.block_lt_of_cell? w _ hx124_0)).trans hx124_0
                    try replace hx124_1 := (HB.out.cell (World.block_lt_of_cell? w _ hx124_1)).trans hx124_1
                    try replace hx124_2 := (HB.out.cell (World.block_lt_of_cell? w _ hx124_2)).trans hx124_2
                    replace p124 := eq_true p124
                    replace q124 := eq_true q124
                    go_wp2
                    go_roundg k2
                    case measure => have := HK1.out; have := HK2.out; omega
                    case rel => exact ⟨(x3_2), (wrap64 (x4_1 + 1)), (by first | rfl | (simp; done) | (simp [*]; done)), H', ⟨by have := HK1.out; have := HK2.out; omega⟩, ⟨by (with_reducible repeat (first | apply Kd.R_alloc | apply Kd.R_drewN | apply Kd.R_drew)); exact HO_3.out⟩, ⟨by repeat (first | (with_reducible first | exact HB.out | apply below_alloc | apply pw_below_drewN | apply below_drew1) | exact HB.out)⟩⟩
                · rw [if_neg c5] at H
                  exact absurd H (by simp)
              · rw [if_neg c4] at H
                exact absurd H (by simp)
        · rw [if_neg c3] at H
          exact absurd H (by simp)
      · rw [if_neg c2] at H
        have c2b0 : decide (x4_1 < (l0.length : Int)) = false := decide_eq_false c2
        clear c2
        obtain rfl := Option.some.inj H
        go_wp2
        go_ret
        exact ⟨_, by first | rfl | (simp [errW_none, errW_some] <;> rfl) | (simp [*, errW_none, errW_some] <;> rfl), by (with_reducible repeat (first | apply Kd.R_alloc | apply Kd.R_drewN | apply Kd.R_drew)); exact HO_3.out, by repeat (first | (with_reducible first | exact HB.out | apply below_alloc | apply pw_below_drewN | apply below_drew1) | exact HB.out)⟩

/-! ### haulierref08_Begin: function 11 -/
def haulierref08_Begin.f (l0 : List (S50)) : Option (Int) := if (l0.length : Int) = 0 then (some 0) else (if 0 < (l0.length : Int) then (some ((rd_T50 l0 0).f1)) else (none))
set_option maxHeartbeats 8000000 in
set_option maxRecDepth 100000 in
theorem haulierref08_Begin.calls (A0 : Option Addr) (c0 : Nat) (l0 : List (S50)) (r : Int) (w : World) (hr0 : Kd.C k50 w A0 l0.length l0) (hc0 : l0.length ≤ c0) (h : haulierref08_Begin.f l0 = some r) :
    Calls Try.prog 11 #[.slice A0 l0.length c0] w fun e w' => e = .returned (.int .i64 r) ∧ Drawn0 w w' := by
  have HR0 := Aside0.mk hr0
  have HC0 := Aside0.mk hc0
  clear hr0 hc0
  have H : (if (l0.length : Int) = 0 then (some 0) else (if 0 < (l0.length : Int) then (some ((rd_T50 l0 0).f1)) else (none))) = some r := h
  clear h
  by_cases c2 : (l0.length : Int) = 0
  · rw [if_pos c2] at H
    have c2b0 : ((l0.length : Int) == 0) = true := beq_iff_eq.mpr c2
    have c2b1 : ((l0.length : Int) != 0) = false := bne_eq_false_iff_eq.mpr c2
    clear c2
    obtain rfl := Option.some.inj H
    go_enter Try.func11, Try.ntmps11
    go_wp2
    go_ret
    exact ⟨by first | rfl | (simp; done) | (simp [*]; done), by repeat (first | exact Drawn0.refl _ | apply Drawn0.step)⟩
  · rw [if_neg c2] at H
    have c2b0 : ((l0.length : Int) == 0) = false := beq_eq_false_iff_ne.mpr c2
    have c2b1 : ((l0.length : Int) != 0) = true := bne_iff_ne.mpr c2
    have c2b2 : ¬ (l0 = []) := fun h_ => c2 (by rw [h_]; rfl)
    by_cases c3 : 0 < (l0.length : Int)
    · rw [if_pos c3] at H
      have c3b0 : decide (0 < (l0.length : Int)) = true := decide_eq_true c3
      have c3b1 : decide (0 < l0.length) = true := decide_eq_true (by omega)
      clear c3
      obtain rfl := Option.some.inj H
      have p129 : 0 ≤ (0 : Int) := (by omega)
      have q129 : 0 < (l0.length : Int) := of_decide_eq_true (by first | (with_reducible assumption) | assumption)
      obtain ⟨ad129, e129, hx129_0, hx129_1, hx129_2⟩ := at_T50 HR0.out 0 p129 q129
      cases e129
      have qi129 : (0 < l0.length) = True := eq_true (by omega)
      (try rw [show ((0 : Int)).toNat = 0 from rfl] at hx129_0)
      (try rw [show 0 * 3 = 0 from rfl] at hx129_0)
      (try rw [Addr.add_zero'] at hx129_0)
      (try rw [show ((0 : Int)).toNat = 0 from rfl] at hx129_1)
      (try rw [show 0 * 3 = 0 from rfl] at hx129_1)
      (try rw [Addr.add_zero'] at hx129_1)
      (try rw [show ((0 : Int)).toNat = 0 from rfl] at hx129_2)
      (try rw [show 0 * 3 = 0 from rfl] at hx129_2)
      (try rw [Addr.add_zero'] at hx129_2)
      replace p129 := eq_true p129
      replace q129 := eq_true q129
      go_enter Try.func11, Try.ntmps11
      go_wp2
      go_ret
      exact ⟨by first | rfl | (simp; done) | (simp [*]; done), by repeat (first | exact Drawn0.refl _ | apply Drawn0.step)⟩
    · rw [if_neg c3] at H
      exact absurd H (by simp)

/-! ### haulierlaw09_ViewEach: function 3 (typed by hand) -/
def haulierlaw09_ViewEach.zip (bg : Int) (ks : List Int) : List (Int × Int) := (List.range ks.length).map fun (j : Nat) => (bg + (j : Int), rd ks (j : Int))
def haulierlaw09_ViewEach.g (k : Nat) (l0 : List S50) (e1 bg : Int) (rt : Bool) : Option Bool :=
  if e1 = 0 then
    if rt = true then (haulierref08_Kinds.f k l0).bind fun ks => if (0 ≤ bg ∧ bg ≤ 100000) ∧ l0.all view_Of.okR = true ∧ ks.length ≤ 100000 ∧ Go.Proofs.Ytegmofaiobdilaa.Vw1.mins (l0.map view_Of.tQ) = haulierlaw09_ViewEach.zip bg ks then haulierlaw09_alive.f k else none
    else none
  else if rt = false then haulierlaw09_alive.f k else none
def haulierlaw09_ViewEach.f (k : Nat) (l0 : List S50) (a1 : Int) : Option Bool := (haulierlaw09_light.f k l0).bind fun a => if a = true then (record_Check.f k l0).bind fun p => (haulierref08_Right.f k l0).bind fun rt => (haulierref08_Begin.f l0).bind fun bg => haulierlaw09_ViewEach.g k l0 p.2 bg rt else haulierlaw09_alive.f k
theorem haulierlaw09_ViewEach.mono : ∀ l0 a1 k, LeO (haulierlaw09_ViewEach.f k l0 a1) (haulierlaw09_ViewEach.f (k + 1) l0 a1) := by
  intro l0 a1 k
  unfold haulierlaw09_ViewEach.f haulierlaw09_ViewEach.g
  refine LeO.bind (haulierlaw09_light.mono _ _) (fun a => LeO.ite ?_ (haulierlaw09_alive.mono _))
  refine LeO.bind (record_Check.mono _ _) (fun p => LeO.bind (haulierref08_Right.mono _ _) (fun rt => LeO.bind (LeO.refl _) (fun bg => ?_)))
  exact LeO.ite (LeO.ite (LeO.bind (haulierref08_Kinds.mono _ _) (fun ks => LeO.ite (haulierlaw09_alive.mono _) (LeO.refl _))) (LeO.refl _)) (LeO.ite (haulierlaw09_alive.mono _) (LeO.refl _))
theorem haulierlaw09_ViewEach.calls (k : Nat) (A0 : Option Addr) (c0 : Nat) (l0 : List S50) (a1 : Int) (r : Bool) (w : World) (hr0 : Kd.C k50 w A0 l0.length l0) (hc0 : l0.length ≤ c0) (h : haulierlaw09_ViewEach.f k l0 a1 = some r) :
    Calls Try.prog 3 #[.slice A0 l0.length c0, .int .i64 a1] w fun e w' => e = .returned (.bool r) ∧ Below w.heap.size w w' := by
  unfold haulierlaw09_ViewEach.f at h
  obtain ⟨a, hli, h⟩ := Option.bind_eq_some_iff.mp h
  have hlen : (l0.map view_Of.tQ).length = l0.length := List.length_map _
  have hC : Kd.C Go.Proofs.Ytegmofaiobdilaa.Vw1.kdq w A0 (l0.map view_Of.tQ).length (l0.map view_Of.tQ) := by rw [hlen]; exact view_Of.C_map hr0
  have bk : ∀ {W}, Kd.C Go.Proofs.Ytegmofaiobdilaa.Vw1.kdq W A0 (l0.map view_Of.tQ).length (l0.map view_Of.tQ) → Kd.C k50 W A0 l0.length l0 := fun hW => view_Of.C_back (by rw [hlen] at hW; exact hW)
  have hlight : ∀ W, Kd.C Go.Proofs.Ytegmofaiobdilaa.Vw1.kdq W A0 (l0.map view_Of.tQ).length (l0.map view_Of.tQ) → Calls Try.prog 7 #[.slice A0 (l0.map view_Of.tQ).length c0] W fun e W' => e = .returned (.bool a) ∧ Below W.heap.size W W' := by
    intro W hW
    have := haulierlaw09_light.calls k A0 c0 l0 a W (bk hW) hc0 hli
    rw [hlen]
    exact this
  rw [← hlen]
  cases a with
  | false =>
    rw [if_neg (by simp)] at h
    exact Go.Proofs.Ytegmofaiobdilaa.Vw5.ve_out A0 c0 _ a1 w hC r (fun W => haulierlaw09_alive.calls k r W h) hlight
  | true =>
    rw [if_pos rfl] at h
    obtain ⟨⟨i1, e1⟩, hck, h2⟩ := Option.bind_eq_some_iff.mp h
    clear h
    obtain ⟨rt, hrt, h3⟩ := Option.bind_eq_some_iff.mp h2
    clear h2
    obtain ⟨bg, hbg, h⟩ := Option.bind_eq_some_iff.mp h3
    clear h3
    unfold haulierlaw09_ViewEach.g at h
    have hchk : ∀ W, Kd.C Go.Proofs.Ytegmofaiobdilaa.Vw1.kdq W A0 (l0.map view_Of.tQ).length (l0.map view_Of.tQ) → Calls Try.prog 27 #[.slice A0 (l0.map view_Of.tQ).length c0] W fun e W' => e = .returned (.tuple #[.int .i64 i1, .int .i64 e1]) ∧ Below W.heap.size W W' := by
      intro W hW
      have := record_Check.calls k A0 c0 l0 i1 e1 W (bk hW) hc0 hck
      rw [hlen]
      exact this
    have hR : ∀ W, Kd.C Go.Proofs.Ytegmofaiobdilaa.Vw1.kdq W A0 (l0.map view_Of.tQ).length (l0.map view_Of.tQ) → Calls Try.prog 9 #[.slice A0 (l0.map view_Of.tQ).length c0] W fun e W' => e = .returned (.bool rt) ∧ Below W.heap.size W W' := by
      intro W hW
      have := haulierref08_Right.calls k A0 c0 l0 rt W (bk hW) hc0 hrt
      rw [hlen]
      exact this
    have hB : ∀ W, Kd.C Go.Proofs.Ytegmofaiobdilaa.Vw1.kdq W A0 (l0.map view_Of.tQ).length (l0.map view_Of.tQ) → Calls Try.prog 11 #[.slice A0 (l0.map view_Of.tQ).length c0] W fun e W' => e = .returned (.int .i64 bg) ∧ Below W.heap.size W W' := by
      intro W hW
      have := haulierref08_Begin.calls A0 c0 l0 bg W (bk hW) hc0 hbg
      rw [hlen]
      exact this.mono fun e W' hx => ⟨hx.1, hx.2.below⟩
    simp only [] at h
    by_cases he : e1 = 0
    · rw [if_pos he] at h
      subst he
      cases rt with
      | false =>
        rw [if_neg (by simp)] at h
        cases h
      | true =>
        rw [if_pos rfl] at h
        obtain ⟨ks, hks, h⟩ := Option.bind_eq_some_iff.mp h
        split at h
        · rename_i hx
          have hkinds : ∀ W, Kd.C Go.Proofs.Ytegmofaiobdilaa.Vw1.kdq W A0 (l0.map view_Of.tQ).length (l0.map view_Of.tQ) → Calls Try.prog 10 #[.slice A0 (l0.map view_Of.tQ).length c0] W fun e W' => ∃ v0_ : Value, e = .returned v0_ ∧ Kd.R (Kd.int .i64) 3 W' W.heap.size (fun _ => True) v0_ ks ∧ Below W.heap.size W W' := by
            intro W hW
            have := haulierref08_Kinds.calls k A0 c0 l0 ks W (bk hW) hc0 hks
            rw [hlen]
            exact this
          exact Go.Proofs.Ytegmofaiobdilaa.Vw5.ve_yes A0 c0 _ a1 w hC r (fun W => haulierlaw09_alive.calls k r W h) hlight hR bg hB hx.1 ks hkinds i1 hchk (fun x hx2 => by
            obtain ⟨y, hy, rfl⟩ := List.mem_map.1 hx2
            exact of_decide_eq_true (List.all_eq_true.1 hx.2.1 y hy)) hx.2.2.1 hx.2.2.2
        · cases h
    · rw [if_neg he] at h
      cases rt with
      | true =>
        rw [if_neg (by simp)] at h
        cases h
      | false =>
        rw [if_pos rfl] at h
        exact Go.Proofs.Ytegmofaiobdilaa.Vw5.ve_no A0 c0 _ a1 w hC r (fun W => haulierlaw09_alive.calls k r W h) hlight hR bg hB i1 e1 he hchk


def OK50 (x : S50) : Prop := (Lit.int .i64 x.f0).wf = true ∧ ((Lit.int .i64 x.f1).wf = true ∧ ((Lit.int .i64 x.f2).wf = true))
/-- THE ONE PURE STATEMENT of haulierlaw09_ViewEach. -/
def haulierlaw09_ViewEach.Pure : Prop := ∀ (l0 : List (S50)) (a1 : Int), l0.length ≤ maxLen → (∀ x ∈ l0, OK50 x) → (Lit.int .i64 a1).wf = true → ∃ k, haulierlaw09_ViewEach.f k l0 a1 = some true
end Go.Proofs.Ytegmofaiobdilaa.MViewEach
