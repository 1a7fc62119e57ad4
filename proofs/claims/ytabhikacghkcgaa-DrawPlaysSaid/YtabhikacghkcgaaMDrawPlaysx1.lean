/- Written by a program of this session: Go functions that the law DrawPlays reaches, as Lean functions, each with a proof that the Go code comes to just what it says; every input of the kinds that a contract names. -/
import Derived.Test.YtabhikacghkcgaaMDrawPlaysx0
namespace Go.Proofs.Ytabhikacghkcgaa.MDrawPlays
open Go.RowKit Go.Proofs.YtabhikacghkcgaaW.PrintWords Go.Proofs.YtabhikacghkcgaaW.PrintLast Go.Proofs.YtabhikacghkcgaaW.PrintMore
attribute [local go_sem] max2_int min2_int max_two min_two max_three min_three max_four min_four   -- for this text's walks alone
set_option linter.unusedVariables false
set_option linter.unusedSimpArgs false
set_option linter.unnecessarySimpa false

-- NOT PRINTED: function 15 (slices_Clone_int_int)

-- NOT PRINTED: function 6 (draw_New)

-- NOT PRINTED: function 22 (slices_overlaps_int)

/-! ### slices_Reverse_int_int: function 26 -/
def slices_Reverse_int_int.l0 : Nat → List Int → Int → Int → Option (List Int)
  | 0, _, _, _ => none
  | k + 1, x0, x2, x3 => if x2 < x3 then (if 0 ≤ x3 then (if x3 < (x0.length : Int) then (if 0 ≤ x2 then (if x2 < (x0.length : Int) then (slices_Reverse_int_int.l0 k ((x0.set (x2 : Int).toNat (rd x0 x3)).set (x3 : Int).toNat (rd x0 x2)) (wrap64 (x2 + 1)) (wrap64 (x3 - 1))) else (none)) else (none)) else (none)) else (none)) else (some x0)
def slices_Reverse_int_int.f (k : Nat) (l0 : List Int) : Option (List Int) := slices_Reverse_int_int.l0 k l0 0 (wrap64 ((l0.length : Int) - 1))
theorem slices_Reverse_int_int.mono_l : ∀ k, (∀ y0 y1 y2, LeO (slices_Reverse_int_int.l0 k y0 y1 y2) (slices_Reverse_int_int.l0 (k + 1) y0 y1 y2))
  | 0 => fun _ _ _ r h => by simp [slices_Reverse_int_int.l0] at h
  | k + 1 => by
    have ih0 := slices_Reverse_int_int.mono_l k
    · intro y0 y1 y2
      unfold slices_Reverse_int_int.l0
      repeat' first
      | (with_reducible exact ih0 _ _ _)
      | (with_reducible exact LeO.refl _)
      | (with_reducible exact LeO.none _)
      | (with_reducible refine LeO.ite ?_ ?_)
      | (with_reducible refine LeO.bind ?_ (fun _ => ?_))
      | exact ih0 _ _ _
      | exact LeO.none _
      | refine LeO.ite ?_ ?_
      | refine LeO.bind ?_ (fun _ => ?_)
theorem slices_Reverse_int_int.mono : ∀ a0 k, LeO (slices_Reverse_int_int.f k a0) (slices_Reverse_int_int.f (k + 1) a0) := by
  intro a0 k
  have ih0 := slices_Reverse_int_int.mono_l k
  unfold slices_Reverse_int_int.f
  repeat' first
      | (with_reducible exact ih0 _ _ _)
      | (with_reducible exact LeO.refl _)
      | (with_reducible exact LeO.none _)
      | (with_reducible refine LeO.ite ?_ ?_)
      | (with_reducible refine LeO.bind ?_ (fun _ => ?_))
      | exact ih0 _ _ _
      | exact LeO.none _
      | refine LeO.ite ?_ ?_
      | refine LeO.bind ?_ (fun _ => ?_)
def slices_Reverse_int_int.T3 : Bool × List (List Nat × List Nat) := (true, [([], []), ([], []), ([], []), ([], []), ([], []), ([], []), ([4, 5], [4, 5]), ([6], [6]), ([], []), ([], []), ([8, 9], [8, 9]), ([10], [10]), ([0, 1, 0, 1, 4, 5, 6, 7, 11], [0, 1]), ([12, 7, 0, 1, 4, 5, 6, 7, 11], [7, 12]), ([2, 3, 0, 1, 2, 3, 4, 5, 6, 7, 8, 9, 10, 11, 12, 13], [2, 3]), ([14, 11, 13, 0, 1, 2, 3, 4, 5, 6, 7, 8, 9, 10, 11, 12, 13], [11, 14])])
def slices_Reverse_int_int.B3 : List Nat := [0, 0, 0, 0, 0, 0, 48, 112, 0, 0, 768, 1792, 4083, 8179, 16383, 32767]
theorem slices_Reverse_int_int.tab3 : rtab .any (opsOf Try.f26 3) = slices_Reverse_int_int.T3 := by kernel_rfl
theorem slices_Reverse_int_int.bits3 : waitsOk slices_Reverse_int_int.T3.2 slices_Reverse_int_int.B3 = true := by kernel_rfl
set_option maxHeartbeats 8000000 in
set_option maxRecDepth 100000 in
theorem slices_Reverse_int_int.calls (k : Nat) (P0_ : Nat → Prop) (u9000_ : Value) (l0 : List Int) (r : List Int) (w0 w : World) (hB : Below w0.heap.size w0 w) (ho0 : Kd.R (Kd.int .i64) 3 w w0.heap.size P0_ u9000_ l0) (h : slices_Reverse_int_int.f k l0 = some r) :
    Calls Try.prog 26 #[u9000_] w fun e w' => e = .returned (.tuple #[]) ∧ Kd.R (Kd.int .i64) 3 w' w0.heap.size (fun k_ => (P0_ k_ ∨ w.heap.size ≤ k_)) u9000_ r ∧ Below w0.heap.size w0 w' ∧ Kept w w' (fun k_ => P0_ k_) := by
  have HO0 := Aside0.mk (show Kd.R (Kd.int .i64) 3 w w0.heap.size (fun k_ => (P0_ k_ ∨ w.heap.size ≤ k_)) u9000_ l0 from Kd.R_mono ho0 (fun k_ hk => (.inl hk)))
  have HK := Aside0.mk (Kept.refl w (fun k_ => P0_ k_))
  have HW0 := Aside0.mk hB.size
  have HB := Aside0.mk hB
  clear hB
  have H : (slices_Reverse_int_int.l0 k l0 0 (wrap64 ((l0.length : Int) - 1))) = some r := h
  clear h
  have H' := Aside0.mk H
  clear H
  obtain ⟨Ao2, co2, eo2⟩ := Kd.R_slice HO0.out
  subst eo2
  go_enter Try.func26, Try.ntmps26
  go_wp2
  go_loopg [2, 3] k (fun kq v2 v3 w' => ∃ (x0_1 : List Int) (x2_1 : Int) (x3_1 : Int), v2 = .int .i64 x2_1 ∧ v3 = .int .i64 x3_1 ∧ Aside0 (slices_Reverse_int_int.l0 kq x0_1 x2_1 x3_1 = some r) ∧ Aside0 (kq ≤ k) ∧ Aside0 (Kd.R (Kd.int .i64) 3 w' w0.heap.size (fun k_ => (P0_ k_ ∨ w.heap.size ≤ k_)) (.slice Ao2 l0.length co2) x0_1) ∧ Aside0 (Kept w w' (fun k_ => P0_ k_)) ∧ Aside0 (Below w0.heap.size w0 w'))
  case atStart => exact ⟨(l0), (0), (wrap64 ((l0.length : Int) - 1)), (by first | rfl | (simp; done) | (simp [*]; done)), (by first | rfl | (simp; done) | (simp [*]; done)), H', ⟨Nat.le_refl _⟩, ⟨by (with_reducible repeat (first | apply Kd.R_alloc | apply Kd.R_drewN | apply Kd.R_drew)); exact HO0.out⟩, ⟨by repeat (first | (with_reducible first | exact HK.out | apply Kept.alloc | apply Kept.drewN | apply Kept.drew) | exact HK.out)⟩, ⟨by repeat (first | (with_reducible first | exact HB.out | apply below_alloc | apply pw_below_drewN | apply below_drew1) | exact HB.out)⟩⟩
  case round =>
    clear H'
    try clear c2
    try clear p2
    obtain ⟨x0_1, x2_1, x3_1, rfl, rfl, HA, HK1, HO_0, HK, HB⟩ := hrel
    have hl0_1 := (Kd.R_reads' HO_0.out).1
    rw [hl0_1] at HO_0
    (try simp only [hl0_1])
    cases gk with
    | zero => exact absurd HA.out (by simp [slices_Reverse_int_int.l0])
    | succ k1 =>
      have H := HA.out
      clear HA
      simp only [slices_Reverse_int_int.l0] at H
      by_cases c3 : x2_1 < x3_1
      · rw [if_pos c3] at H
        have c3b0 : decide (x2_1 < x3_1) = true := decide_eq_true c3
        clear c3
        by_cases c4 : 0 ≤ x3_1
        · rw [if_pos c4] at H
          have c4b0 : decide (0 ≤ x3_1) = true := decide_eq_true c4
          clear c4
          by_cases c5 : x3_1 < (x0_1.length : Int)
          · rw [if_pos c5] at H
            have c5b0 : decide (x3_1 < (x0_1.length : Int)) = true := decide_eq_true c5
            (try (have c5b0z0_1 := c5b0; rw [hl0_1] at c5b0z0_1))
            clear c5
            by_cases c6 : 0 ≤ x2_1
            · rw [if_pos c6] at H
              have c6b0 : decide (0 ≤ x2_1) = true := decide_eq_true c6
              clear c6
              by_cases c7 : x2_1 < (x0_1.length : Int)
              · rw [if_pos c7] at H
                have c7b0 : decide (x2_1 < (x0_1.length : Int)) = true := decide_eq_true c7
                (try (have c7b0z0_1 := c7b0; rw [hl0_1] at c7b0z0_1))
                clear c7
                obtain ⟨y103, hy103⟩ : ∃ y_ : List Int, y_ = (x0_1.set (x2_1 : Int).toNat (rd x0_1 x3_1)) := ⟨_, rfl⟩
                replace H : (slices_Reverse_int_int.l0 k1 (y103.set (x3_1 : Int).toNat (rd x0_1 x2_1)) (wrap64 (x2_1 + 1)) (wrap64 (x3_1 - 1))) = some r := by first | (rw [hy103]; with_reducible exact H) | (have H2_ := (Option.bind_some _ _).symm.trans H; rw [hy103]; with_reducible exact H2_) | (have H2_ := (Option.bind_some _ _).symm.trans H; with_reducible exact H2_) | with_reducible exact H | (rw [hy103]; exact H) | exact H
                have Ny103 := Aside0.mk hy103
                clear hy103
                obtain ⟨y104, hy104⟩ : ∃ y_ : List Int, y_ = (y103.set (x3_1 : Int).toNat (rd x0_1 x2_1)) := ⟨_, rfl⟩
                replace H : (slices_Reverse_int_int.l0 k1 y104 (wrap64 (x2_1 + 1)) (wrap64 (x3_1 - 1))) = some r := by first | (rw [hy104]; with_reducible exact H) | (have H2_ := (Option.bind_some _ _).symm.trans H; rw [hy104]; with_reducible exact H2_) | (have H2_ := (Option.bind_some _ _).symm.trans H; with_reducible exact H2_) | with_reducible exact H | (rw [hy104]; exact H) | exact H
                have Ny104 := Aside0.mk hy104
                clear hy104
                have H' := Aside0.mk H
                clear H
                try go_wp2
                have n0_ := Aside0.mk (Kd.R_drew HO_0.out)
                have n1_ := Aside0.mk (Kept.drew HK.out)
                have n2_ := Aside0.mk (below_drew1 HB.out)
                clear HO_0
                clear HK
                clear HB
                have HO_0 := n0_
                have HK := n1_
                have HB := n2_
                clear n0_ n1_ n2_
                have p101 : 0 ≤ (x3_1 : Int) := of_decide_eq_true (by first | (with_reducible assumption) | assumption)
                have q101 : x3_1 < (x0_1.length : Int) := of_decide_eq_true (by first | (with_reducible assumption) | assumption)
                obtain ⟨ad101, e101, hx101_0⟩ := Kd.at_int (Kd.R_reads' HO_0.out).2.2 x3_1 p101 q101
                cases e101
                replace p101 := eq_true p101
                replace q101 := eq_true q101
                have p102 : 0 ≤ (x2_1 : Int) := of_decide_eq_true (by first | (with_reducible assumption) | assumption)
                have q102 : x2_1 < (x0_1.length : Int) := of_decide_eq_true (by first | (with_reducible assumption) | assumption)
                obtain ⟨ad102, e102, hx102_0⟩ := Kd.at_int (Kd.R_reads' HO_0.out).2.2 x2_1 p102 q102
                obtain rfl : ad101 = ad102 := (by injection e102)
                replace p102 := eq_true p102
                replace q102 := eq_true q102
                have p8 : 0 ≤ (x2_1 : Int) := of_decide_eq_true (by first | (with_reducible assumption) | assumption)
                have q8 : (x2_1 : Int) < ((x0_1.length : Int) : Int) := of_decide_eq_true (by first | (with_reducible assumption) | assumption)
                obtain ⟨go8, co8, eo8, gb8, gl8, cl8, HG8⟩ := Kd.R_form HO_0.out (by omega)
                (first | cases eo8 | (injection eo8 with ea_ en_ ec_; (first | subst ea_ | (injection ea_ with ea_; subst ea_)); subst ec_; clear en_))
                have GB8 := Aside0.mk gb8
                have GG8 := Aside0.mk HG8
                clear gb8 gl8 HG8
                have HMgo8 := Aside0.mk (show (P0_ go8 ∨ w.heap.size ≤ go8) from (HO_0.out.1 _ rfl))
                (first | simp only [add_plain] at hx101_0 | skip)
                (first | simp only [add_plain] at hx102_0 | skip)
                obtain ⟨hx8_0, hf8_0⟩ := Kd.R_celln 0 HO_0.out (x2_1 : Int) p8 q8
                replace p8 := eq_true p8
                replace q8 := eq_true q8
                have HP11 := Kd.R_putn HO_0.out (x2_1 : Int) (rd x0_1 x3_1)
                rw [← Ny103.out] at HP11
                have HQ11 := Aside0.mk HP11
                clear HP11
                have p9 : 0 ≤ (x3_1 : Int) := of_decide_eq_true (by first | (with_reducible assumption) | assumption)
                have q9 : (x3_1 : Int) < ((x0_1.length : Int) : Int) := of_decide_eq_true (by first | (with_reducible assumption) | assumption)
                obtain ⟨hx9_0, hf9_0⟩ := Kd.R_celln 0 HQ11.out (x3_1 : Int) p9 q9
                replace p9 := eq_true p9
                replace q9 := eq_true q9
                have HP12 := Kd.R_putn HQ11.out (x3_1 : Int) (rd x0_1 x2_1)
                rw [← Ny104.out] at HP12
                have HQ12 := Aside0.mk HP12
                clear HP12
                refine start_ (n := 16) (S := fun w' => w'.cell? ⟨go8, (x3_1).toNat, none⟩ = some (.int .i64 (rd x0_1 x3_1)) ∧ w'.cell? ⟨go8, (x2_1).toNat, none⟩ = some (.int .i64 (rd x0_1 x2_1))) (ds := [13, 15]) #[false, false, false, false, false, false, false, false, false, false, false, false, false, false, false, false] (by kernel_rfl) rfl rfl ⟨hx101_0, hx102_0⟩ (fun hHeld => ?_); refine with_tabW slices_Reverse_int_int.tab3 slices_Reverse_int_int.bits3 (fun HT_ HW_ => ?_)
                generalize wr.drew = w10 at HO_0 HK HB GG8 HQ11 HQ12 hf8_0 hf9_0 hx101_0 hx102_0 hx8_0 hx9_0 hHeld ⊢
                refine pure_ (i := 0) (N := some 14) (v := ?_) (a' := ?_) #[true, false, false, false, false, false, false, false, false, false, false, false, false, false, false, false] rfl rfl (any_of HT_.out (by kernel_rfl)) (fun _ _ _ h => h) (Or.inl ⟨by rfl, ?_⟩) ?_ ?_
                rotate_left
                · intro w'
                  go_simp
                  with_reducible rfl
                rotate_left
                · simp only [Act.put, List.setIfInBounds_toArray, List.set_cons_zero, List.set_cons_succ, i64_w, i32_w]
                  rfl
                refine pure_ (i := 1) (N := some 15) (v := ?_) (a' := ?_) #[true, true, false, false, false, false, false, false, false, false, false, false, false, false, false, false] rfl rfl (any_of HT_.out (by kernel_rfl)) (fun _ _ _ h => h) (Or.inl ⟨by rfl, ?_⟩) ?_ ?_
                rotate_left
                · intro w'
                  go_simp
                  with_reducible rfl
                rotate_left
                · simp only [Act.put, List.setIfInBounds_toArray, List.set_cons_zero, List.set_cons_succ, i64_w, i32_w]
                  rfl
                refine pure_ (i := 2) (N := some 16) (v := ?_) (a' := ?_) #[true, true, true, false, false, false, false, false, false, false, false, false, false, false, false, false] rfl rfl (any_of HT_.out (by kernel_rfl)) (fun _ _ _ h => h) (Or.inl ⟨by rfl, ?_⟩) ?_ ?_
                rotate_left
                · intro w'
                  go_simp
                  with_reducible rfl
                rotate_left
                · simp only [Act.put, List.setIfInBounds_toArray, List.set_cons_zero, List.set_cons_succ, i64_w, i32_w]
                  rfl
                refine pure_ (i := 3) (N := some 17) (v := ?_) (a' := ?_) #[true, true, true, true, false, false, false, false, false, false, false, false, false, false, false, false] rfl rfl (any_of HT_.out (by kernel_rfl)) (fun _ _ _ h => h) (Or.inl ⟨by rfl, ?_⟩) ?_ ?_
                rotate_left
                · intro w'
                  go_simp
                  with_reducible rfl
                rotate_left
                · simp only [Act.put, List.setIfInBounds_toArray, List.set_cons_zero, List.set_cons_succ, i64_w, i32_w]
                  rfl
                refine pure_ (i := 4) (N := some 18) (v := ?_) (a' := ?_) #[true, true, true, true, true, false, false, false, false, false, false, false, false, false, false, false] rfl rfl (any_of HT_.out (by kernel_rfl)) (fun _ _ _ h => h) (Or.inl ⟨by rfl, ?_⟩) ?_ ?_
                rotate_left
                · intro w'
                  go_simp
                  with_reducible rfl
                rotate_left
                · simp only [Act.put, List.setIfInBounds_toArray, List.set_cons_zero, List.set_cons_succ, i64_w, i32_w]
                  rfl
                refine pure_ (i := 5) (N := some 19) (v := ?_) (a' := ?_) #[true, true, true, true, true, true, false, false, false, false, false, false, false, false, false, false] rfl rfl (any_of HT_.out (by kernel_rfl)) (fun _ _ _ h => h) (Or.inl ⟨by rfl, ?_⟩) ?_ ?_
                rotate_left
                · intro w'
                  go_simp
                  with_reducible rfl
                rotate_left
                · simp only [Act.put, List.setIfInBounds_toArray, List.set_cons_zero, List.set_cons_succ, i64_w, i32_w]
                  rfl
                refine pure_ (i := 6) (N := some 20) (v := ?_) (a' := ?_) #[true, true, true, true, true, true, true, false, false, false, false, false, false, false, false, false] rfl rfl (any_of HT_.out (by kernel_rfl)) (fun _ _ _ h => h) (Or.inl ⟨by rfl, ?_⟩) ?_ ?_
                rotate_left
                · intro w'
                  go_simp
                  with_reducible rfl
                rotate_left
                · simp only [Act.put, List.setIfInBounds_toArray, List.set_cons_zero, List.set_cons_succ, i64_w, i32_w]
                  rfl
                refine pure_ (i := 8) (N := some 22) (v := ?_) (a' := ?_) #[true, true, true, true, true, true, true, false, true, false, false, false, false, false, false, false] rfl rfl (any_of HT_.out (by kernel_rfl)) (fun _ _ _ h => h) (Or.inl ⟨by rfl, ?_⟩) ?_ ?_
                rotate_left
                · intro w'
                  go_simp
                  with_reducible rfl
                rotate_left
                · simp only [Act.put, List.setIfInBounds_toArray, List.set_cons_zero, List.set_cons_succ, i64_w, i32_w]
                  rfl
                refine pure_ (i := 9) (N := some 23) (v := ?_) (a' := ?_) #[true, true, true, true, true, true, true, false, true, true, false, false, false, false, false, false] rfl rfl (any_of HT_.out (by kernel_rfl)) (fun _ _ _ h => h) (Or.inl ⟨by rfl, ?_⟩) ?_ ?_
                rotate_left
                · intro w'
                  go_simp
                  with_reducible rfl
                rotate_left
                · simp only [Act.put, List.setIfInBounds_toArray, List.set_cons_zero, List.set_cons_succ, i64_w, i32_w]
                  rfl
                refine pure_ (i := 10) (N := some 24) (v := ?_) (a' := ?_) #[true, true, true, true, true, true, true, false, true, true, true, false, false, false, false, false] rfl rfl (any_of HT_.out (by kernel_rfl)) (fun _ _ _ h => h) (Or.inl ⟨by rfl, ?_⟩) ?_ ?_
                rotate_left
                · intro w'
                  go_simp
                  with_reducible rfl
                rotate_left
                · simp only [Act.put, List.setIfInBounds_toArray, List.set_cons_zero, List.set_cons_succ, i64_w, i32_w]
                  rfl
                refine take_ (i := 7) (N := some 21) (v := ?_) (a' := ?_) #[true, true, true, true, true, true, true, true, true, true, true, false, false, false, false, false] rfl rfl (take_ofW HT_.out HW_.out (by kernel_rfl)) (fun _ _ _ h => h) (Or.inl ⟨by rfl, ?_⟩) hHeld ?_ ?_
                rotate_left
                · rintro w' ⟨s0, s1⟩
                  go_simp
                  with_reducible rfl
                rotate_left
                · simp only [Act.put, List.setIfInBounds_toArray, List.set_cons_zero, List.set_cons_succ, i64_w, i32_w]
                  rfl
                refine take_ (i := 11) (N := some 25) (v := ?_) (a' := ?_) #[true, true, true, true, true, true, true, true, true, true, true, true, false, false, false, false] rfl rfl (take_ofW HT_.out HW_.out (by kernel_rfl)) (fun _ _ _ h => h) (Or.inl ⟨by rfl, ?_⟩) hHeld ?_ ?_
                rotate_left
                · rintro w' ⟨s0, s1⟩
                  go_simp
                  with_reducible rfl
                rotate_left
                · simp only [Act.put, List.setIfInBounds_toArray, List.set_cons_zero, List.set_cons_succ, i64_w, i32_w]
                  rfl
                refine pure_ (i := 12) (N := some 26) (v := ?_) (a' := ?_) #[true, true, true, true, true, true, true, true, true, true, true, true, true, false, false, false] rfl rfl (any_of HT_.out (by kernel_rfl)) (fun _ _ _ h => h) (Or.inl ⟨by rfl, ?_⟩) ?_ ?_
                rotate_left
                · intro w'
                  go_simp
                  with_reducible rfl
                rotate_left
                · simp only [Act.put, List.setIfInBounds_toArray, List.set_cons_zero, List.set_cons_succ, i64_w, i32_w]
                  rfl
                refine last_ (i := 13) (N := none) #[true, true, true, true, true, true, true, true, true, true, true, true, true, true, false, false] rfl rfl (one_of HT_.out (by kernel_rfl)) (by decide) (fun K hK => ?_)
                refine skip_ (w1 := ?_) (by rfl) rfl ?_ ?_
                rotate_left
                · go_simp
                  rfl
                refine hK.out _ _ ?_
                clear hK K
                refine pure_ (i := 14) (N := some 27) (v := ?_) (a' := ?_) #[true, true, true, true, true, true, true, true, true, true, true, true, true, true, true, false] rfl rfl (any_of HT_.out (by kernel_rfl)) (fun _ _ _ h => h) (Or.inl ⟨by rfl, ?_⟩) ?_ ?_
                rotate_left
                · intro w'
                  go_simp
                  with_reducible rfl
                rotate_left
                · simp only [Act.put, List.setIfInBounds_toArray, List.set_cons_zero, List.set_cons_succ, i64_w, i32_w]
                  rfl
                refine last_ (i := 15) (N := none) #[true, true, true, true, true, true, true, true, true, true, true, true, true, true, true, true] rfl rfl (one_of HT_.out (by kernel_rfl)) (by decide) (fun K hK => ?_)
                refine skip_ (w1 := ?_) (by rfl) rfl ?_ ?_
                rotate_left
                · go_simp
                  rfl
                refine hK.out _ _ ?_
                clear hK K
                refine done_ (done_of HT_.out (by kernel_rfl)) ?_
                try go_wp2
                (try simp only [← hl0_1])
                go_roundg k1
                case measure => have := HK1.out; omega
                case rel => exact ⟨(y104), (wrap64 (x2_1 + 1)), (wrap64 (x3_1 - 1)), (by first | rfl | (simp; done) | (simp [*]; done)), (by first | rfl | (simp; done) | (simp [*]; done)), H', ⟨by have := HK1.out; omega⟩, ⟨by (try simp only [hl0_1]); (with_reducible repeat (first | apply Kd.R_alloc | apply Kd.R_drewN | apply Kd.R_drew)); exact HQ12.out⟩, ⟨by repeat (first | (with_reducible first | exact HK.out | apply Kept.alloc | apply Kept.drewN | apply Kept.drew | refine Kept.setCell ?_ HMgo8.out _ | refine Kept.setCell ?_ HMgo8.out _) | exact HK.out)⟩, ⟨by repeat (first | (with_reducible first | exact HB.out | apply below_alloc | apply pw_below_drewN | apply below_drew1 | refine below_set ?_ GB8.out | refine below_set ?_ GB8.out) | exact HB.out)⟩⟩
              · rw [if_neg c7] at H
                exact absurd H (by simp)
            · rw [if_neg c6] at H
              exact absurd H (by simp)
          · rw [if_neg c5] at H
            exact absurd H (by simp)
        · rw [if_neg c4] at H
          exact absurd H (by simp)
      · rw [if_neg c3] at H
        have c3b0 : decide (x2_1 < x3_1) = false := decide_eq_false c3
        clear c3
        obtain rfl := Option.some.inj H
        go_wp2
        first | go_end0 | ((try simp only [Exit.inBlock, Exit.then]); refine bodyPost_ret (results_none rfl _ _ _) rfl ?_)
        exact ⟨by first | rfl | (simp [errW_none, errW_some] <;> rfl) | (simp [*, errW_none, errW_some] <;> rfl), (by first | exact (by (with_reducible repeat (first | apply Kd.R_alloc | apply Kd.R_drewN | apply Kd.R_drew)); exact HO_0.out) | (simp only [hl0_1]; exact (by (with_reducible repeat (first | apply Kd.R_alloc | apply Kd.R_drewN | apply Kd.R_drew)); exact HO_0.out))), by repeat (first | (with_reducible first | exact HB.out | apply below_alloc | apply pw_below_drewN | apply below_drew1) | exact HB.out), by repeat (first | (with_reducible first | exact HK.out | apply Kept.alloc | apply Kept.drewN | apply Kept.drew) | exact HK.out)⟩

-- NOT PRINTED: function 25 (slices_rotateLeft_int)

-- NOT PRINTED: function 23 (slices_rotateRight_int)

-- NOT PRINTED: function 19 (slices_Insert_int_int)

-- NOT PRINTED: function 16 (draw_pick)

-- NOT PRINTED: function 7 (draw_Draws_Pick)

-- NOT PRINTED: function 10 (draw_Draws_Left)

-- NOT PRINTED: function 5 (haulierlaw34_alive)

/-! ### haulierref34_Mod: function 17 (typed by hand) -/
theorem haulierref34_Mod.by_hand : True := trivial

/-! ### haulierref34_Pick: function 8 (typed by hand) -/
theorem haulierref34_Pick.by_hand : True := trivial

/-! ### haulierref07_Same: function 9 -/
def haulierref07_Same.l0 : Nat → List Int → List Int → Int → Option (Bool)
  | 0, _, _, _ => none
  | k + 1, x0, x1, x5 => if x5 < (x0.length : Int) then (if 0 ≤ x5 then (if x5 < (x1.length : Int) then (if (rd x0 x5) = (rd x1 x5) then (haulierref07_Same.l0 k x0 x1 (wrap64 (x5 + 1))) else (some false)) else (none)) else (none)) else (some true)
def haulierref07_Same.f (k : Nat) (l0 : List Int) (l1 : List Int) : Option (Bool) := if (l0.length : Int) = (l1.length : Int) then (haulierref07_Same.l0 k l0 l1 0) else (some false)
theorem haulierref07_Same.mono_l : ∀ k, (∀ y0 y1 y2, LeO (haulierref07_Same.l0 k y0 y1 y2) (haulierref07_Same.l0 (k + 1) y0 y1 y2))
  | 0 => fun _ _ _ r h => by simp [haulierref07_Same.l0] at h
  | k + 1 => by
    have ih0 := haulierref07_Same.mono_l k
    · intro y0 y1 y2
      unfold haulierref07_Same.l0
      repeat' first
      | (with_reducible exact ih0 _ _ _)
      | (with_reducible exact LeO.refl _)
      | (with_reducible exact LeO.none _)
      | (with_reducible refine LeO.ite ?_ ?_)
      | (with_reducible refine LeO.bind ?_ (fun _ => ?_))
      | exact ih0 _ _ _
      | exact LeO.none _
      | refine LeO.ite ?_ ?_
      | refine LeO.bind ?_ (fun _ => ?_)
theorem haulierref07_Same.mono : ∀ a0 a1 k, LeO (haulierref07_Same.f k a0 a1) (haulierref07_Same.f (k + 1) a0 a1) := by
  intro a0 a1 k
  have ih0 := haulierref07_Same.mono_l k
  unfold haulierref07_Same.f
  repeat' first
      | (with_reducible exact ih0 _ _ _)
      | (with_reducible exact LeO.refl _)
      | (with_reducible exact LeO.none _)
      | (with_reducible refine LeO.ite ?_ ?_)
      | (with_reducible refine LeO.bind ?_ (fun _ => ?_))
      | exact ih0 _ _ _
      | exact LeO.none _
      | refine LeO.ite ?_ ?_
      | refine LeO.bind ?_ (fun _ => ?_)
set_option maxHeartbeats 8000000 in
set_option maxRecDepth 100000 in
theorem haulierref07_Same.calls (k : Nat) (A0 : Option Addr) (c0 : Nat) (l0 : List Int) (A1 : Option Addr) (c1 : Nat) (l1 : List Int) (r : Bool) (w : World) (hr0 : Kd.C (Kd.int .i64) w A0 l0.length l0) (hc0 : l0.length ≤ c0) (hr1 : Kd.C (Kd.int .i64) w A1 l1.length l1) (hc1 : l1.length ≤ c1) (h : haulierref07_Same.f k l0 l1 = some r) :
    Calls Try.prog 9 #[.slice A0 l0.length c0, .slice A1 l1.length c1] w fun e w' => e = .returned (.bool r) ∧ Drawn0 w w' := by
  have HR0 := Aside0.mk hr0
  have HC0 := Aside0.mk hc0
  clear hr0 hc0
  have HR1 := Aside0.mk hr1
  have HC1 := Aside0.mk hc1
  clear hr1 hc1
  have H : (if (l0.length : Int) = (l1.length : Int) then (haulierref07_Same.l0 k l0 l1 0) else (some false)) = some r := h
  clear h
  by_cases c3 : (l0.length : Int) = (l1.length : Int)
  · rw [if_pos c3] at H
    have c3b0 : ((l0.length : Int) == (l1.length : Int)) = true := beq_iff_eq.mpr c3
    have c3b1 : ((l0.length : Int) != (l1.length : Int)) = false := bne_eq_false_iff_eq.mpr c3
    have c3b2 : (l0.length == l1.length) = true := by first | simpa using c3 | (simp at c3 ⊢; omega)
    clear c3
    have H' := Aside0.mk H
    clear H
    go_enter Try.func9, Try.ntmps9
    go_wp2
    repeat (go_quiet (fail); try go_wp2)
    go_loopg [5] k (fun kq v5 w' => ∃ (x5_1 : Int), v5 = .int .i64 x5_1 ∧ Aside0 (haulierref07_Same.l0 kq l0 l1 x5_1 = some r) ∧ Aside0 (kq ≤ k) ∧ Drawn0 w w')
    case atStart => exact ⟨(0), (by first | rfl | (simp; done) | (simp [*]; done)), H', ⟨Nat.le_refl _⟩, by repeat (first | exact Drawn0.refl _ | apply Drawn0.step)⟩
    case round =>
      clear H'
      try clear c1
      try clear p2
      try clear c3
      try clear c3b0
      try clear c3b1
      try clear c3b2
      obtain ⟨x5_1, rfl, HA, HK1, ⟨m1, rfl⟩⟩ := hrel
      cases gk with
      | zero => exact absurd HA.out (by simp [haulierref07_Same.l0])
      | succ k1 =>
        have H := HA.out
        clear HA
        simp only [haulierref07_Same.l0] at H
        by_cases c4 : x5_1 < (l0.length : Int)
        · rw [if_pos c4] at H
          have c4b0 : decide (x5_1 < (l0.length : Int)) = true := decide_eq_true c4
          clear c4
          by_cases c5 : 0 ≤ x5_1
          · rw [if_pos c5] at H
            have c5b0 : decide (0 ≤ x5_1) = true := decide_eq_true c5
            clear c5
            by_cases c6 : x5_1 < (l1.length : Int)
            · rw [if_pos c6] at H
              have c6b0 : decide (x5_1 < (l1.length : Int)) = true := decide_eq_true c6
              clear c6
              by_cases c7 : (rd l0 x5_1) = (rd l1 x5_1)
              · rw [if_pos c7] at H
                have c7b0 : ((rd l0 x5_1) == (rd l1 x5_1)) = true := beq_iff_eq.mpr c7
                have c7b1 : ((rd l0 x5_1) != (rd l1 x5_1)) = false := bne_eq_false_iff_eq.mpr c7
                clear c7
                have H' := Aside0.mk H
                clear H
                have p119 : 0 ≤ (x5_1 : Int) := of_decide_eq_true (by first | (with_reducible assumption) | assumption)
                have q119 : x5_1 < (l0.length : Int) := of_decide_eq_true (by first | (with_reducible assumption) | assumption)
                obtain ⟨ad119, e119, hx119_0⟩ := Kd.at_int HR0.out x5_1 p119 q119
                cases e119
                replace p119 := eq_true p119
                replace q119 := eq_true q119
                have p120 : 0 ≤ (x5_1 : Int) := of_decide_eq_true (by first | (with_reducible assumption) | assumption)
                have q120 : x5_1 < (l1.length : Int) := of_decide_eq_true (by first | (with_reducible assumption) | assumption)
                obtain ⟨ad120, e120, hx120_0⟩ := Kd.at_int HR1.out x5_1 p120 q120
                cases e120
                replace p120 := eq_true p120
                replace q120 := eq_true q120
                go_wp2
                repeat (go_quiet (fail); try go_wp2)
                go_roundg k1
                case measure => have := HK1.out; omega
                case rel => exact ⟨(wrap64 (x5_1 + 1)), (by first | rfl | (simp; done) | (simp [*]; done)), H', ⟨by have := HK1.out; omega⟩, by repeat (first | exact Drawn0.refl _ | apply Drawn0.step)⟩
              · rw [if_neg c7] at H
                have c7b0 : ((rd l0 x5_1) == (rd l1 x5_1)) = false := beq_eq_false_iff_ne.mpr c7
                have c7b1 : ((rd l0 x5_1) != (rd l1 x5_1)) = true := bne_iff_ne.mpr c7
                obtain rfl := Option.some.inj H
                have p119 : 0 ≤ (x5_1 : Int) := of_decide_eq_true (by first | (with_reducible assumption) | assumption)
                have q119 : x5_1 < (l0.length : Int) := of_decide_eq_true (by first | (with_reducible assumption) | assumption)
                obtain ⟨ad119, e119, hx119_0⟩ := Kd.at_int HR0.out x5_1 p119 q119
                cases e119
                replace p119 := eq_true p119
                replace q119 := eq_true q119
                have p120 : 0 ≤ (x5_1 : Int) := of_decide_eq_true (by first | (with_reducible assumption) | assumption)
                have q120 : x5_1 < (l1.length : Int) := of_decide_eq_true (by first | (with_reducible assumption) | assumption)
                obtain ⟨ad120, e120, hx120_0⟩ := Kd.at_int HR1.out x5_1 p120 q120
                cases e120
                replace p120 := eq_true p120
                replace q120 := eq_true q120
                go_wp2
                repeat (go_quiet (fail); try go_wp2)
                go_ret
                exact ⟨by first | rfl | (simp; done) | (simp [*]; done), by repeat (first | exact Drawn0.refl _ | apply Drawn0.step)⟩
            · rw [if_neg c6] at H
              exact absurd H (by simp)
          · rw [if_neg c5] at H
            exact absurd H (by simp)
        · rw [if_neg c4] at H
          have c4b0 : decide (x5_1 < (l0.length : Int)) = false := decide_eq_false c4
          clear c4
          obtain rfl := Option.some.inj H
          go_wp2
          repeat (go_quiet (fail); try go_wp2)
          go_ret
          exact ⟨by first | rfl | (simp; done) | (simp [*]; done), by repeat (first | exact Drawn0.refl _ | apply Drawn0.step)⟩
  · rw [if_neg c3] at H
    have c3b0 : ((l0.length : Int) == (l1.length : Int)) = false := beq_eq_false_iff_ne.mpr c3
    have c3b1 : ((l0.length : Int) != (l1.length : Int)) = true := bne_iff_ne.mpr c3
    have c3b2 : (l0.length == l1.length) = false := by first | simpa using c3 | (simp at c3 ⊢; omega)
    obtain rfl := Option.some.inj H
    go_enter Try.func9, Try.ntmps9
    go_wp2
    repeat (go_quiet (fail); try go_wp2)
    go_ret
    exact ⟨by first | rfl | (simp; done) | (simp [*]; done), by repeat (first | exact Drawn0.refl _ | apply Drawn0.step)⟩

-- NOT PRINTED: function 11 (draw_Draws_Next)

/-! ### haulierref34_Next: function 12 (typed by hand) -/
theorem haulierref34_Next.by_hand : True := trivial

/-! ### haulierlaw34_DrawPlays: function 3 (typed by hand) -/
open Go.Proofs.Ytabhikacghkcgaa.Ints Go.Proofs.Ytabhikacghkcgaa.Draw1 Go.Proofs.Ytabhikacghkcgaa.Draw2 Go.Proofs.Ytabhikacghkcgaa.Draw3 Go.Proofs.Ytabhikacghkcgaa.Draw4 Go.Proofs.Ytabhikacghkcgaa.Draw5 Go.Proofs.Ytabhikacghkcgaa.Draw7 Go.Proofs.Ytabhikacghkcgaa.Draw8
theorem haulierlaw34_DrawPlays.drw {w w1 : World} (h : ∃ n, w1 = w.drewN n) : Below w.heap.size w w1 := by
  obtain ⟨n, rfl⟩ := h
  exact pw_below_drewN (Below.refl _ _) n
def haulierlaw34_DrawPlays.pl (k : Nat) (L : List Int) : List S28 → Nat → List Int → Option Bool
  | [], _, _ => some true
  | x :: t, at_, rl => if x.f0 = true then (if x.f1 > 200 then some true else
      if (pickS L at_ x.f1 x.f2).2.1 = (rpS rl x.f1 x.f2).2.1 ∧ L.length - (pickS L at_ x.f1 x.f2).2.2 = (rpS rl x.f1 x.f2).2.2.length then
        (haulierref07_Same.f k (pickS L at_ x.f1 x.f2).1 (rpS rl x.f1 x.f2).1).bind fun s => if s = true then haulierlaw34_DrawPlays.pl k L t (pickS L at_ x.f1 x.f2).2.2 (rpS rl x.f1 x.f2).2.2 else none
      else none) else
      if (nxt L at_ x.f1).1 = (rnS rl x.f1).1 ∧ (nxt L at_ x.f1).2.1 = (rnS rl x.f1).2.1 ∧ L.length - (nxt L at_ x.f1).2.2 = (rnS rl x.f1).2.2.length then haulierlaw34_DrawPlays.pl k L t (nxt L at_ x.f1).2.2 (rnS rl x.f1).2.2 else none
def haulierlaw34_DrawPlays.f (k : Nat) (l0 : List Int) (l1 : List S28) : Option Bool := if 200 < l0.length then some true else if 40 < l1.length then some true else haulierlaw34_DrawPlays.pl k l0 l1 0 l0
theorem haulierlaw34_DrawPlays.pl_mono (L : List Int) (l1 : List S28) : ∀ at_ rl k, LeO (haulierlaw34_DrawPlays.pl k L l1 at_ rl) (haulierlaw34_DrawPlays.pl (k + 1) L l1 at_ rl) := by
  induction l1 with
  | nil => intro at_ rl k; exact LeO.refl _
  | cons x t ih =>
    intro at_ rl k
    unfold haulierlaw34_DrawPlays.pl
    exact LeO.ite (LeO.ite (LeO.refl _) (LeO.ite (LeO.bind (haulierref07_Same.mono _ _ _) (fun _ => LeO.ite (ih _ _ _) (LeO.refl _))) (LeO.refl _))) (LeO.ite (ih _ _ _) (LeO.refl _))
theorem haulierlaw34_DrawPlays.mono : ∀ l0 l1 k, LeO (haulierlaw34_DrawPlays.f k l0 l1) (haulierlaw34_DrawPlays.f (k + 1) l0 l1) := by
  intro l0 l1 k
  unfold haulierlaw34_DrawPlays.f
  exact LeO.ite (LeO.refl _) (LeO.ite (LeO.refl _) (haulierlaw34_DrawPlays.pl_mono l0 l1 _ _ _))
theorem haulierlaw34_DrawPlays.pl_true (k : Nat) (L : List Int) (l1 : List S28) : ∀ at_ rl r, haulierlaw34_DrawPlays.pl k L l1 at_ rl = some r → r = true := by
  induction l1 with
  | nil => intro at_ rl r h; exact (Option.some.inj h).symm
  | cons x t ih =>
    intro at_ rl r h
    rw [haulierlaw34_DrawPlays.pl] at h
    split at h
    · split at h
      · exact (Option.some.inj h).symm
      split at h
      · obtain ⟨s, _, h⟩ := Option.bind_eq_some_iff.mp h
        split at h
        · exact ih _ _ _ h
        · simp at h
      · simp at h
    · split at h
      · exact ih _ _ _ h
      · simp at h
set_option maxHeartbeats 8000000 in
set_option maxRecDepth 100000 in
theorem haulierlaw34_DrawPlays.wa (A0 : Option Addr) (c0 : Nat) (l0 : List Int) (A1 : Option Addr) (c1 : Nat) (l1 : List S28) (w : World) (hr0 : Kd.C (Kd.int .i64) w A0 l0.length l0) (hc0 : l0.length ≤ c0) (hr1 : Kd.C k28 w A1 l1.length l1) (hc1 : l1.length ≤ c1) (h : 200 < l0.length ∨ (¬ 200 < l0.length ∧ 40 < l1.length)) : Calls Try.prog 3 #[.slice A0 l0.length c0, .slice A1 l1.length c1] w fun e w' => e = .returned (.bool true) ∧ Below w.heap.size w w' := by
  have HB := Aside0.mk (Below.refl w.heap.size w)
  clear hr0 hc0 hr1 hc1
  rcases h with h1 | ⟨h1, h2⟩
  · have g1 : ((200 : Int) < (l0.length : Int)) = True := eq_true (by omega)
    have g2 : ((l0.length : Int) > 200) = True := eq_true (by omega)
    clear h1
    go_enter Try.func3, Try.ntmps3
    go_wp2_with ((go_at_call 5; (with_reducible refine (Go.Proofs.Ytabhikacghkcgaa.Draw7.alive_ _).mono ?_); rintro e wv ⟨rfl, hb⟩; replace HB := Aside0.mk (below_step HB.out hb); clear hb))
    first | go_ret | go_ret2
    exact ⟨by first | rfl | simp, HB.out⟩
  · have g1 : ((200 : Int) < (l0.length : Int)) = False := eq_false (by omega)
    have g2 : ((l0.length : Int) > 200) = False := eq_false (by omega)
    have g3 : ((40 : Int) < (l1.length : Int)) = True := eq_true (by omega)
    have g4 : ((l1.length : Int) > 40) = True := eq_true (by omega)
    clear h1 h2
    go_enter Try.func3, Try.ntmps3
    go_wp2_with ((go_at_call 5; (with_reducible refine (Go.Proofs.Ytabhikacghkcgaa.Draw7.alive_ _).mono ?_); rintro e wv ⟨rfl, hb⟩; replace HB := Aside0.mk (below_step HB.out hb); clear hb))
    first | go_ret | go_ret2
    exact ⟨by first | rfl | simp, HB.out⟩
theorem haulierlaw34_DrawPlays.grown_row (w : World) (g : Nat) (cs : Array Value) : w.grownBy (w.setRow g cs) (some g) :=
  ⟨rfl, rfl, rfl, by simp [World.setRow], fun k _ hk => setRow_other w g k cs (fun e => hk (by rw [e]))⟩
set_option maxHeartbeats 8000000 in
set_option maxRecDepth 100000 in
theorem haulierlaw34_DrawPlays.loop (k : Nat) (A0 : Option Addr) (c0 : Nat) (l0 : List Int) (A1 : Option Addr) (c1 : Nat) (l1 : List S28) (w : World) (hr0 : Kd.C (Kd.int .i64) w A0 l0.length l0) (hc0 : l0.length ≤ c0) (hr1 : Kd.C k28 w A1 l1.length l1) (hc1 : l1.length ≤ c1) (h1 : ¬ 200 < l0.length) (h2 : ¬ 40 < l1.length) (h : haulierlaw34_DrawPlays.pl k l0 l1 0 l0 = some true) : Calls Try.prog 3 #[.slice A0 l0.length c0, .slice A1 l1.length c1] w fun e w' => e = .returned (.bool true) ∧ Below w.heap.size w w' := by
  have g1 : ((200 : Int) < (l0.length : Int)) = False := eq_false (by omega)
  have g2 : ((l0.length : Int) > 200) = False := eq_false (by omega)
  have g3 : ((40 : Int) < (l1.length : Int)) = False := eq_false (by omega)
  have g4 : ((l1.length : Int) > 40) = False := eq_false (by omega)
  have HR0 := Aside0.mk hr0
  have HC0 := Aside0.mk hc0
  have HR1 := Aside0.mk hr1
  have HL0 := Aside0.mk (show l0.length ≤ 200 by omega)
  have HL1 := Aside0.mk (show l1.length ≤ 40 by omega)
  have HH := Aside0.mk h
  have HB := Aside0.mk (Below.refl w.heap.size w)
  clear hr0 hc0 hr1 hc1 h1 h2 h
  go_enter Try.func3, Try.ntmps3
  go_wp2_with (first | (go_at_call 6; (with_reducible refine (new2 A0 c0 l0 _ _ (Kd.C_below HR0.out HB.out) (by have := HL0.out; omega) rfl).mono ?_); rintro e wv ⟨g, A8, c8, rfl, hd, hb⟩; have HGB := Aside0.mk (Nat.le_trans (below_size HB.out) hd.2.1); have HD0 := Aside0.mk hd; have HW := Aside0.mk (Nat.le_refl wv.heap.size); replace HB := Aside0.mk (below_step HB.out hb); clear hd hb))
  clear g1 g2 g3 g4
  obtain ⟨base, top, HD1, HT1⟩ : ∃ base top, Aside0 (IsD wv base top g A8 c8 l0 0) ∧ Aside0 (top ≤ wv.heap.size) := ⟨_, _, HD0, HW⟩
  clear HD0 HW
  go_loopg [0, 31] l1.length (fun kq v0 v31 w' => ∃ (i at' : Nat) (rl : List Int) (A' : Option Addr) (c' : Nat), v31 = .int .i64 (i : Int) ∧ v0 = .slice A' rl.length c' ∧ Aside0 (i ≤ l1.length) ∧ Aside0 (l1.length - i ≤ kq) ∧ Aside0 (haulierlaw34_DrawPlays.pl k l0 (l1.drop i) at' rl = some true) ∧ Aside0 (CI w A' rl) ∧ Aside0 (rl.length ≤ c') ∧ Aside0 (IsD w' base top g A8 c8 l0 at') ∧ Aside0 (top ≤ w'.heap.size) ∧ Aside0 (Below w.heap.size w w'))
  case atStart => exact ⟨0, 0, l0, A0, c0, rfl, rfl, ⟨Nat.zero_le _⟩, ⟨by omega⟩, ⟨by simpa using HH.out⟩, HR0, HC0, HD1, HT1, HB⟩
  case round =>
    clear HB HD1 HT1 HH
    obtain ⟨i, at', rl, A', c', rfl, rfl, HJ, HKQ, HP, HCR, HCC, HD, HTOP, HB⟩ := hrel
    by_cases c1_ : (i : Int) < (l1.length : Int)
    · have HIN := Aside0.mk (show i < l1.length by omega)
      obtain ⟨ad, e1, hx0, hx1, hx2⟩ := at_T28 (Kd.C_below HR1.out HB.out) (i : Int) (by omega) c1_
      subst e1
      rw [Int.toNat_natCast] at hx0 hx1 hx2
      have hd : l1.drop i = rd_T28 l1 (i : Int) :: l1.drop (i + 1) := by
        rw [List.drop_eq_getElem_cons HIN.out]
        simp [rd_T28, HIN.out]
      have hp := HP.out
      rw [hd, haulierlaw34_DrawPlays.pl] at hp
      have HW2 := Aside0.mk (show wrap64 ((i : Int) + 1) = ((i + 1 : Nat) : Int) by have := HL1.out; unfold wrap64; omega)
      generalize rd_T28 l1 (i : Int) = x at *
      obtain ⟨xp, xn, xk⟩ := x
      dsimp only at hp hx0 hx1 hx2
      have p1 : (0 ≤ (i : Int)) = True := eq_true (by omega)
      replace c1_ := eq_true c1_
      clear hd HP
      cases xp with
      | true =>
        rw [if_pos rfl] at hp
        by_cases hn : xn > 200
        · have hn1 := eq_true hn
          have hn2 : (200 < xn) = True := eq_true hn
          clear hp hn
          go_wp2_with (first | ((with_reducible refine gate_dst (N := 7) rfl ?_); refine box_event ?hg (N := 7) ?hd (cs := #[.bool false, .int .i64 0, .int .i64 0]) (t := 28) ?hr ?_; (case hd => rfl); (case hg => rfl); (case hr => first | (go_simp; done) | (go_simp; rfl)); intro gb hgb wv hbox hb; have BB := Aside0.mk hbox; have SB := Aside0.mk (show w.heap.size ≤ gb by rw [hgb]; exact below_size HB.out); have SBT := Aside0.mk (show top ≤ gb by rw [hgb]; exact HTOP.out); have SBG := Aside0.mk (show g < gb by rw [hgb]; exact HD.out.2.2.1); replace HD := Aside0.mk (HD.out.below hb); replace HTOP := Aside0.mk (Nat.le_trans HTOP.out hb.size); replace HB := Aside0.mk (below_step HB.out hb); clear hx0 hx1 hx2 hbox hb hgb) | ((with_reducible refine gate_store (t := 28) (p := 7) rfl ?_); refine wpList_store_row rfl 28 _ _ rfl gb #[.bool true, .int .i64 xn, .int .i64 xk] rfl rfl 28 #[.bool false, .int .i64 0, .int .i64 0] BB.out (by kernel_rfl) rfl (by first | kernel_rfl | (simp [Value.oneCell']; done) | decide) ?_; have hset := setRow_heap wv gb _ #[.bool true, .int .i64 xn, .int .i64 xk] _ _ BB.out; have hbel := below_setRow HB.out SB.out #[.bool true, .int .i64 xn, .int .i64 xk]; have hgr := haulierlaw34_DrawPlays.grown_row wv gb #[.bool true, .int .i64 xn, .int .i64 xk]; obtain ⟨wn, hwn⟩ : ∃ wn, wn = wv.setRow gb #[.bool true, .int .i64 xn, .int .i64 xk] := ⟨_, rfl⟩; rw [← hwn] at hset hbel hgr ⊢; clear hwn BB; replace HB := Aside0.mk hbel; replace HD := Aside0.mk (HD.out.grown hgr (fun k e => by injection e with e; subst e; exact ⟨SBT.out, Nat.ne_of_gt SBG.out⟩)); replace HTOP := Aside0.mk (Nat.le_trans HTOP.out hgr.size); have BX := Aside0.mk hset; clear hset hbel hgr; have hb0 : wn.cell? ⟨gb, 0, none⟩ = some (.bool true) := (blk_cell BX.out 0).trans rfl; have hb1 : wn.cell? ⟨gb, 1, none⟩ = some (.int .i64 xn) := (blk_cell BX.out 1).trans rfl; have hb2 : wn.cell? ⟨gb, 2, none⟩ = some (.int .i64 xk) := (blk_cell BX.out 2).trans rfl) | (go_at_call 5; (with_reducible refine (Go.Proofs.Ytabhikacghkcgaa.Draw7.alive_ _).mono ?_); rintro e wv ⟨rfl, hb⟩; replace HB := Aside0.mk (below_step HB.out hb); clear hb))
          first | go_ret | go_ret2
          exact ⟨by first | rfl | simp, HB.out⟩
        · rw [if_neg hn] at hp
          obtain ⟨pa, ok, pat, hpk⟩ : ∃ pa ok pat, pickS l0 at' xn xk = (pa, ok, pat) := ⟨_, _, _, rfl⟩
          obtain ⟨pb, ok2, rest, hrp⟩ : ∃ pb ok rest, rpS rl xn xk = (pb, ok, rest) := ⟨_, _, _, rfl⟩
          rw [hpk, hrp] at hp
          dsimp only at hp
          by_cases hc : ok = ok2 ∧ l0.length - pat = rest.length
          · rw [if_pos hc] at hp
            obtain ⟨rfl, hlf⟩ := hc
            obtain ⟨s, hs, hp⟩ := Option.bind_eq_some_iff.mp hp
            cases s with
            | false => exact absurd hp (by simp)
            | true =>
              rw [if_pos rfl] at hp
              have HPK := Aside0.mk hpk
              have HRP := Aside0.mk hrp
              have HLF := Aside0.mk hlf
              have HSM := Aside0.mk hs
              have HP2 := Aside0.mk hp
              have HPB := Aside0.mk (show xk ≤ 1000000 ∨ xk > xn by omega)
              have HN1 := Aside0.mk (show xn ≤ 1000000 by omega)
              have hn1 := eq_false hn
              have hn2 : (200 < xn) = False := eq_false hn
              clear hpk hrp hlf hs hp hn
              cases ok
              all_goals
                go_wp2_with (first | ((with_reducible refine gate_dst (N := 7) rfl ?_); refine box_event ?hg (N := 7) ?hd (cs := #[.bool false, .int .i64 0, .int .i64 0]) (t := 28) ?hr ?_; (case hd => rfl); (case hg => rfl); (case hr => first | (go_simp; done) | (go_simp; rfl)); intro gb hgb wv hbox hb; have BB := Aside0.mk hbox; have SB := Aside0.mk (show w.heap.size ≤ gb by rw [hgb]; exact below_size HB.out); have SBT := Aside0.mk (show top ≤ gb by rw [hgb]; exact HTOP.out); have SBG := Aside0.mk (show g < gb by rw [hgb]; exact HD.out.2.2.1); replace HD := Aside0.mk (HD.out.below hb); replace HTOP := Aside0.mk (Nat.le_trans HTOP.out hb.size); replace HB := Aside0.mk (below_step HB.out hb); clear hx0 hx1 hx2 hbox hb hgb) | ((with_reducible refine gate_store (t := 28) (p := 7) rfl ?_); refine wpList_store_row rfl 28 _ _ rfl gb #[.bool true, .int .i64 xn, .int .i64 xk] rfl rfl 28 #[.bool false, .int .i64 0, .int .i64 0] BB.out (by kernel_rfl) rfl (by first | kernel_rfl | (simp [Value.oneCell']; done) | decide) ?_; have hset := setRow_heap wv gb _ #[.bool true, .int .i64 xn, .int .i64 xk] _ _ BB.out; have hbel := below_setRow HB.out SB.out #[.bool true, .int .i64 xn, .int .i64 xk]; have hgr := haulierlaw34_DrawPlays.grown_row wv gb #[.bool true, .int .i64 xn, .int .i64 xk]; obtain ⟨wn, hwn⟩ : ∃ wn, wn = wv.setRow gb #[.bool true, .int .i64 xn, .int .i64 xk] := ⟨_, rfl⟩; rw [← hwn] at hset hbel hgr ⊢; clear hwn BB; replace HB := Aside0.mk hbel; replace HD := Aside0.mk (HD.out.grown hgr (fun k e => by injection e with e; subst e; exact ⟨SBT.out, Nat.ne_of_gt SBG.out⟩)); replace HTOP := Aside0.mk (Nat.le_trans HTOP.out hgr.size); have BX := Aside0.mk hset; clear hset hbel hgr; have hb0 : wn.cell? ⟨gb, 0, none⟩ = some (.bool true) := (blk_cell BX.out 0).trans rfl; have hb1 : wn.cell? ⟨gb, 1, none⟩ = some (.int .i64 xn) := (blk_cell BX.out 1).trans rfl; have hb2 : wn.cell? ⟨gb, 2, none⟩ = some (.int .i64 xk) := (blk_cell BX.out 2).trans rfl) | (go_at_call 7; (with_reducible refine (pick2 xn xk HD.out HTOP.out HPB.out pa _ pat HPK.out).mono ?_); rintro e wv ⟨v9, rfl, ho, hd, hg⟩; replace HB := Aside0.mk (below_g HB.out hg HGB.out); replace HTOP := Aside0.mk (Nat.le_trans HTOP.out hg.size); clear hb0 hb1 hb2; replace BX := Aside0.mk (blk_grown BX.out hg (fun e => by injection e with e; exact absurd e (Nat.ne_of_gt SBG.out))); have hb0 : wv.cell? ⟨gb, 0, none⟩ = some (.bool true) := (blk_cell BX.out 0).trans rfl; have hb1 : wv.cell? ⟨gb, 1, none⟩ = some (.int .i64 xn) := (blk_cell BX.out 1).trans rfl; have hb2 : wv.cell? ⟨gb, 2, none⟩ = some (.int .i64 xk) := (blk_cell BX.out 2).trans rfl; replace HD := Aside0.mk hd; obtain ⟨A9, c9, hv⟩ := Kd.R_slice ho; subst hv; have H9 := Aside0.mk ho; clear ho hd hg) | (go_at_call 8; (with_reducible refine (rpick2 xn xk HB.out HCR.out HCC.out HN1.out pb _ rest HRP.out).mono ?_); rintro e wv ⟨v10, A10, c10, rfl, ho, hCr, hcr, hb⟩; replace H9 := Aside0.mk (Kd.R_below H9.out hb); have hb' := hb; replace HD := Aside0.mk (HD.out.below hb); replace HTOP := Aside0.mk (Nat.le_trans HTOP.out hb.size); replace HB := Aside0.mk (below_step HB.out hb); clear hb0 hb1 hb2; replace BX := Aside0.mk (blk_below BX.out hb'); have hb0 : wv.cell? ⟨gb, 0, none⟩ = some (.bool true) := (blk_cell BX.out 0).trans rfl; have hb1 : wv.cell? ⟨gb, 1, none⟩ = some (.int .i64 xn) := (blk_cell BX.out 1).trans rfl; have hb2 : wv.cell? ⟨gb, 2, none⟩ = some (.int .i64 xk) := (blk_cell BX.out 2).trans rfl; obtain ⟨A11, c11, hv⟩ := Kd.R_slice ho; subst hv; have H10 := Aside0.mk ho; have HCR2 := Aside0.mk hCr; have HCC2 := Aside0.mk hcr; clear ho hCr hcr hb hb') | (go_at_call 9; (with_reducible refine (haulierref07_Same.calls k A9 c9 pa A11 c11 pb true _ (Kd.R_reads' H9.out).2.2 (Kd.R_reads' H9.out).2.1 (Kd.R_reads' H10.out).2.2 (Kd.R_reads' H10.out).2.1 HSM.out).mono ?_); rintro e wv ⟨rfl, hw⟩; have hb := hw.below; clear hw H9 H10; have hb' := hb; replace HD := Aside0.mk (HD.out.below hb); replace HTOP := Aside0.mk (Nat.le_trans HTOP.out hb.size); replace HB := Aside0.mk (below_step HB.out hb); clear hb0 hb1 hb2; replace BX := Aside0.mk (blk_below BX.out hb'); have hb0 : wv.cell? ⟨gb, 0, none⟩ = some (.bool true) := (blk_cell BX.out 0).trans rfl; have hb1 : wv.cell? ⟨gb, 1, none⟩ = some (.int .i64 xn) := (blk_cell BX.out 1).trans rfl; have hb2 : wv.cell? ⟨gb, 2, none⟩ = some (.int .i64 xk) := (blk_cell BX.out 2).trans rfl; clear hb hb') | (go_at_call 10; (with_reducible refine (left2 HD.out rest.length HLF.out).mono ?_); rintro e wv ⟨rfl, hw⟩; have hb := haulierlaw34_DrawPlays.drw hw; clear hw; have hb' := hb; replace HD := Aside0.mk (HD.out.below hb); replace HTOP := Aside0.mk (Nat.le_trans HTOP.out hb.size); replace HB := Aside0.mk (below_step HB.out hb); clear hb0 hb1 hb2; replace BX := Aside0.mk (blk_below BX.out hb'); have hb0 : wv.cell? ⟨gb, 0, none⟩ = some (.bool true) := (blk_cell BX.out 0).trans rfl; have hb1 : wv.cell? ⟨gb, 1, none⟩ = some (.int .i64 xn) := (blk_cell BX.out 1).trans rfl; have hb2 : wv.cell? ⟨gb, 2, none⟩ = some (.int .i64 xk) := (blk_cell BX.out 2).trans rfl; clear hb hb'))
                go_roundg (l1.length - (i + 1))
                case measure => have := HJ.out; have := HKQ.out; have := HIN.out; omega
                case rel => exact ⟨i + 1, pat, rest, A10, c10, by first | rfl | rw [HW2.out], rfl, ⟨by have := HIN.out; omega⟩, ⟨by omega⟩, HP2, HCR2, HCC2, HD, HTOP, HB⟩
          · rw [if_neg hc] at hp
            exact absurd hp (by simp)
      | false =>
        rw [if_neg (by simp)] at hp
        obtain ⟨y, ok, pat, hpk⟩ : ∃ y ok pat, nxt l0 at' xn = (y, ok, pat) := ⟨_, _, _, rfl⟩
        obtain ⟨y2, ok2, rest, hrp⟩ : ∃ y ok rest, rnS rl xn = (y, ok, rest) := ⟨_, _, _, rfl⟩
        rw [hpk, hrp] at hp
        dsimp only at hp
        by_cases hc : y = y2 ∧ ok = ok2 ∧ l0.length - pat = rest.length
        · rw [if_pos hc] at hp
          obtain ⟨rfl, rfl, hlf⟩ := hc
          have HPK := Aside0.mk hpk
          have HRP := Aside0.mk hrp
          have HLF := Aside0.mk hlf
          have HP2 := Aside0.mk hp
          clear hpk hrp hlf hp
          cases ok
          all_goals
            go_wp2_with (first | ((with_reducible refine gate_dst (N := 7) rfl ?_); refine box_event ?hg (N := 7) ?hd (cs := #[.bool false, .int .i64 0, .int .i64 0]) (t := 28) ?hr ?_; (case hd => rfl); (case hg => rfl); (case hr => first | (go_simp; done) | (go_simp; rfl)); intro gb hgb wv hbox hb; have BB := Aside0.mk hbox; have SB := Aside0.mk (show w.heap.size ≤ gb by rw [hgb]; exact below_size HB.out); have SBT := Aside0.mk (show top ≤ gb by rw [hgb]; exact HTOP.out); have SBG := Aside0.mk (show g < gb by rw [hgb]; exact HD.out.2.2.1); replace HD := Aside0.mk (HD.out.below hb); replace HTOP := Aside0.mk (Nat.le_trans HTOP.out hb.size); replace HB := Aside0.mk (below_step HB.out hb); clear hx0 hx1 hx2 hbox hb hgb) | ((with_reducible refine gate_store (t := 28) (p := 7) rfl ?_); refine wpList_store_row rfl 28 _ _ rfl gb #[.bool false, .int .i64 xn, .int .i64 xk] rfl rfl 28 #[.bool false, .int .i64 0, .int .i64 0] BB.out (by kernel_rfl) rfl (by first | kernel_rfl | (simp [Value.oneCell']; done) | decide) ?_; have hset := setRow_heap wv gb _ #[.bool false, .int .i64 xn, .int .i64 xk] _ _ BB.out; have hbel := below_setRow HB.out SB.out #[.bool false, .int .i64 xn, .int .i64 xk]; have hgr := haulierlaw34_DrawPlays.grown_row wv gb #[.bool false, .int .i64 xn, .int .i64 xk]; obtain ⟨wn, hwn⟩ : ∃ wn, wn = wv.setRow gb #[.bool false, .int .i64 xn, .int .i64 xk] := ⟨_, rfl⟩; rw [← hwn] at hset hbel hgr ⊢; clear hwn BB; replace HB := Aside0.mk hbel; replace HD := Aside0.mk (HD.out.grown hgr (fun k e => by injection e with e; subst e; exact ⟨SBT.out, Nat.ne_of_gt SBG.out⟩)); replace HTOP := Aside0.mk (Nat.le_trans HTOP.out hgr.size); have BX := Aside0.mk hset; clear hset hbel hgr; have hb0 : wn.cell? ⟨gb, 0, none⟩ = some (.bool false) := (blk_cell BX.out 0).trans rfl; have hb1 : wn.cell? ⟨gb, 1, none⟩ = some (.int .i64 xn) := (blk_cell BX.out 1).trans rfl; have hb2 : wn.cell? ⟨gb, 2, none⟩ = some (.int .i64 xk) := (blk_cell BX.out 2).trans rfl) | (go_at_call 11; (with_reducible refine (next2 xn HD.out y _ pat HPK.out).mono ?_); rintro e wv ⟨rfl, hd, hg⟩; replace HB := Aside0.mk (below_g HB.out hg HGB.out); replace HTOP := Aside0.mk (Nat.le_trans HTOP.out hg.size); clear hb0 hb1 hb2; replace BX := Aside0.mk (blk_grown BX.out hg (fun e => by injection e with e; exact absurd e (Nat.ne_of_gt SBG.out))); have hb0 : wv.cell? ⟨gb, 0, none⟩ = some (.bool false) := (blk_cell BX.out 0).trans rfl; have hb1 : wv.cell? ⟨gb, 1, none⟩ = some (.int .i64 xn) := (blk_cell BX.out 1).trans rfl; have hb2 : wv.cell? ⟨gb, 2, none⟩ = some (.int .i64 xk) := (blk_cell BX.out 2).trans rfl; replace HD := Aside0.mk hd; clear hd hg) | (go_at_call 12; (with_reducible refine (rnext2 xn HB.out HCR.out HCC.out y _ rest HRP.out).mono ?_); rintro e wv ⟨A10, c10, rfl, hCr, hcr, hb⟩; have hb' := hb; replace HD := Aside0.mk (HD.out.below hb); replace HTOP := Aside0.mk (Nat.le_trans HTOP.out hb.size); replace HB := Aside0.mk (below_step HB.out hb); clear hb0 hb1 hb2; replace BX := Aside0.mk (blk_below BX.out hb'); have hb0 : wv.cell? ⟨gb, 0, none⟩ = some (.bool false) := (blk_cell BX.out 0).trans rfl; have hb1 : wv.cell? ⟨gb, 1, none⟩ = some (.int .i64 xn) := (blk_cell BX.out 1).trans rfl; have hb2 : wv.cell? ⟨gb, 2, none⟩ = some (.int .i64 xk) := (blk_cell BX.out 2).trans rfl; have HCR2 := Aside0.mk hCr; have HCC2 := Aside0.mk hcr; clear hCr hcr hb hb') | (go_at_call 10; (with_reducible refine (left2 HD.out rest.length HLF.out).mono ?_); rintro e wv ⟨rfl, hw⟩; have hb := haulierlaw34_DrawPlays.drw hw; clear hw; have hb' := hb; replace HD := Aside0.mk (HD.out.below hb); replace HTOP := Aside0.mk (Nat.le_trans HTOP.out hb.size); replace HB := Aside0.mk (below_step HB.out hb); clear hb0 hb1 hb2; replace BX := Aside0.mk (blk_below BX.out hb'); have hb0 : wv.cell? ⟨gb, 0, none⟩ = some (.bool false) := (blk_cell BX.out 0).trans rfl; have hb1 : wv.cell? ⟨gb, 1, none⟩ = some (.int .i64 xn) := (blk_cell BX.out 1).trans rfl; have hb2 : wv.cell? ⟨gb, 2, none⟩ = some (.int .i64 xk) := (blk_cell BX.out 2).trans rfl; clear hb hb'))
            go_roundg (l1.length - (i + 1))
            case measure => have := HJ.out; have := HKQ.out; have := HIN.out; omega
            case rel => exact ⟨i + 1, pat, rest, A10, c10, by first | rfl | rw [HW2.out], rfl, ⟨by have := HIN.out; omega⟩, ⟨by omega⟩, HP2, HCR2, HCC2, HD, HTOP, HB⟩
        · rw [if_neg hc] at hp
          exact absurd hp (by simp)
    · obtain rfl : i = l1.length := by have := HJ.out; omega
      replace c1_ := eq_false c1_
      go_wp2_with (first | (go_at_call 5; (with_reducible refine (Go.Proofs.Ytabhikacghkcgaa.Draw7.alive_ _).mono ?_); rintro e wv ⟨rfl, hb⟩; replace HB := Aside0.mk (below_step HB.out hb); clear hb))
      first | go_ret | go_ret2
      exact ⟨by first | rfl | simp, HB.out⟩
theorem haulierlaw34_DrawPlays.calls (k : Nat) (A0 : Option Addr) (c0 : Nat) (l0 : List Int) (A1 : Option Addr) (c1 : Nat) (l1 : List S28) (r : Bool) (w : World) (hr0 : Kd.C (Kd.int .i64) w A0 l0.length l0) (hc0 : l0.length ≤ c0) (hr1 : Kd.C k28 w A1 l1.length l1) (hc1 : l1.length ≤ c1) (h : haulierlaw34_DrawPlays.f k l0 l1 = some r) : Calls Try.prog 3 #[.slice A0 l0.length c0, .slice A1 l1.length c1] w fun e w' => e = .returned (.bool r) ∧ Below w.heap.size w w' := by
  unfold haulierlaw34_DrawPlays.f at h
  by_cases h1 : 200 < l0.length
  · rw [if_pos h1, Option.some.injEq] at h
    subst h
    exact haulierlaw34_DrawPlays.wa A0 c0 l0 A1 c1 l1 w hr0 hc0 hr1 hc1 (.inl h1)
  rw [if_neg h1] at h
  by_cases h2 : 40 < l1.length
  · rw [if_pos h2, Option.some.injEq] at h
    subst h
    exact haulierlaw34_DrawPlays.wa A0 c0 l0 A1 c1 l1 w hr0 hc0 hr1 hc1 (.inr ⟨h1, h2⟩)
  rw [if_neg h2] at h
  have hr := haulierlaw34_DrawPlays.pl_true k l0 l1 0 l0 r h
  subst hr
  exact haulierlaw34_DrawPlays.loop k A0 c0 l0 A1 c1 l1 w hr0 hc0 hr1 hc1 h1 h2 h


def OK28 (x : S28) : Prop := True ∧ ((Lit.int .i64 x.f1).wf = true ∧ ((Lit.int .i64 x.f2).wf = true))
/-- THE ONE PURE STATEMENT of haulierlaw34_DrawPlays. -/
def haulierlaw34_DrawPlays.Pure : Prop := ∀ (l0 : List Int) (l1 : List (S28)), l0.length ≤ maxLen → l0.length * 8 ≤ 140737488351232 → (∀ x ∈ l0, (Lit.int .i64 x).wf = true) → l1.length ≤ maxLen → (∀ x ∈ l1, OK28 x) → ∃ k, haulierlaw34_DrawPlays.f k l0 l1 = some true
end Go.Proofs.Ytabhikacghkcgaa.MDrawPlays
