/- Written by a program of this session: Go functions that the law ViewLetters reaches, as Lean functions, each with a proof that the Go code comes to just what it says; every input of the kinds that a contract names. -/
import Derived.Test.YtegmofaiobdilaaMViewLettersx0
import Derived.Test.YtegmofaiobdilaaMViewLettersx2
import Derived.Test.YtegmofaiobdilaaMViewLettersx3
namespace Go.Proofs.Ytegmofaiobdilaa.MViewLetters
open Go.RowKit Go.Proofs.YtegmofaiobdilaaW.PrintWords Go.Proofs.YtegmofaiobdilaaW.PrintLast Go.Proofs.YtegmofaiobdilaaW.PrintMore
attribute [local go_sem] max2_int min2_int max_two min_two max_three min_three max_four min_four   -- for this text's walks alone
set_option linter.unusedVariables false
set_option linter.unusedSimpArgs false
set_option linter.unnecessarySimpa false

/-! ### haulierlaw09_ViewLetters: function 5 -/
def haulierlaw09_ViewLetters.j0 : Nat → ByteArray → Int → Bool → Option (Bool)
  | 0, _, _, _ => none
  | k + 1, x0, x1, x66 => if x66 = true then (none) else ((view_Spells.f k x0 x1).bind fun t141 => ((haulierref09_Spells.f k x0 x1).bind fun t144 => ((haulierref03_Same.f k t141 t144).bind fun t147 => (if t147 = true then ((haulierlaw09_alive.f k).bind fun t148 => (some t148)) else (none)))))
def haulierlaw09_ViewLetters.f (k : Nat) (a0 : ByteArray) (a1 : Int) (a2 : Int) : Option (Bool) := if (a0.size : Int) > 3000 then ((haulierlaw09_alive.f k).bind fun t134 => (some t134)) else ((view_Kind.f a2).bind fun bt135 => ((haulierref09_Kind.f k a2).bind fun bt137 => ((view_Letter.f a1).bind fun bt139 => (if bt135.1 = bt137.1 then (if (bt135.2 != bt137.2) = true then (haulierlaw09_ViewLetters.j0 k a0 a1 true) else (if a1 ≥ 0 then (if (bt139.2 != (decide (a1 < 4))) = true then (haulierlaw09_ViewLetters.j0 k a0 a1 true) else (if bt139.2 = true then (if 0 ≤ a1 then (if a1 < 4 then (if bt139.1 = (bt (⟨#[82, 65, 87, 68]⟩ : ByteArray) a1) then (haulierlaw09_ViewLetters.j0 k a0 a1 false) else (haulierlaw09_ViewLetters.j0 k a0 a1 true)) else (none)) else (none)) else (haulierlaw09_ViewLetters.j0 k a0 a1 (bt139.1 != 0)))) else (if (bt139.2 != false) = true then (haulierlaw09_ViewLetters.j0 k a0 a1 true) else (if bt139.2 = true then (if 0 ≤ a1 then (if a1 < 4 then (if bt139.1 = (bt (⟨#[82, 65, 87, 68]⟩ : ByteArray) a1) then (haulierlaw09_ViewLetters.j0 k a0 a1 false) else (haulierlaw09_ViewLetters.j0 k a0 a1 true)) else (none)) else (none)) else (haulierlaw09_ViewLetters.j0 k a0 a1 (bt139.1 != 0)))))) else (haulierlaw09_ViewLetters.j0 k a0 a1 true)))))
theorem haulierlaw09_ViewLetters.mono_l : ∀ k, (∀ y0 y1 y2, LeO (haulierlaw09_ViewLetters.j0 k y0 y1 y2) (haulierlaw09_ViewLetters.j0 (k + 1) y0 y1 y2))
  | 0 => fun _ _ _ r h => by simp [haulierlaw09_ViewLetters.j0] at h
  | k + 1 => by
    have ih0 := haulierlaw09_ViewLetters.mono_l k
    · intro y0 y1 y2
      unfold haulierlaw09_ViewLetters.j0
      repeat' first
      | (with_reducible exact ih0 _ _ _)
      | (with_reducible exact haulierlaw09_alive.mono _)
      | (with_reducible exact haulierref03_Same.mono _ _ _)
      | (with_reducible exact haulierref09_Kind.mono _ _)
      | (with_reducible exact haulierref09_Spells.mono _ _ _)
      | (with_reducible exact view_Spells.mono _ _ _)
      | (with_reducible exact LeO.refl _)
      | (with_reducible exact LeO.none _)
      | (with_reducible refine LeO.ite ?_ ?_)
      | (with_reducible refine LeO.bind ?_ (fun _ => ?_))
      | exact ih0 _ _ _
      | exact haulierlaw09_alive.mono _
      | exact haulierref03_Same.mono _ _ _
      | exact haulierref09_Kind.mono _ _
      | exact haulierref09_Spells.mono _ _ _
      | exact view_Spells.mono _ _ _
      | exact LeO.none _
      | refine LeO.ite ?_ ?_
      | refine LeO.bind ?_ (fun _ => ?_)
theorem haulierlaw09_ViewLetters.mono : ∀ a0 a1 a2 k, LeO (haulierlaw09_ViewLetters.f k a0 a1 a2) (haulierlaw09_ViewLetters.f (k + 1) a0 a1 a2) := by
  intro a0 a1 a2 k
  have ih0 := haulierlaw09_ViewLetters.mono_l k
  unfold haulierlaw09_ViewLetters.f
  repeat' first
      | (with_reducible exact ih0 _ _ _)
      | (with_reducible exact haulierlaw09_alive.mono _)
      | (with_reducible exact haulierref03_Same.mono _ _ _)
      | (with_reducible exact haulierref09_Kind.mono _ _)
      | (with_reducible exact haulierref09_Spells.mono _ _ _)
      | (with_reducible exact view_Spells.mono _ _ _)
      | (with_reducible exact LeO.refl _)
      | (with_reducible exact LeO.none _)
      | (with_reducible refine LeO.ite ?_ ?_)
      | (with_reducible refine LeO.bind ?_ (fun _ => ?_))
      | exact ih0 _ _ _
      | exact haulierlaw09_alive.mono _
      | exact haulierref03_Same.mono _ _ _
      | exact haulierref09_Kind.mono _ _
      | exact haulierref09_Spells.mono _ _ _
      | exact view_Spells.mono _ _ _
      | exact LeO.none _
      | refine LeO.ite ?_ ?_
      | refine LeO.bind ?_ (fun _ => ?_)
set_option maxHeartbeats 8000000 in
set_option maxRecDepth 100000 in
theorem haulierlaw09_ViewLetters.calls (k : Nat) (a0 : ByteArray) (a1 : Int) (a2 : Int) (r : Bool) (w : World) (h : haulierlaw09_ViewLetters.f k a0 a1 a2 = some r) :
    Calls Try.prog 5 #[.string a0, .int .i64 a1, .int .u8 a2] w fun e w' => e = .returned (.bool r) ∧ Below w.heap.size w w' := by
  have HB := Aside0.mk (Below.refl w.heap.size w)
  have H : (if (a0.size : Int) > 3000 then ((haulierlaw09_alive.f k).bind fun t134 => (some t134)) else ((view_Kind.f a2).bind fun bt135 => ((haulierref09_Kind.f k a2).bind fun bt137 => ((view_Letter.f a1).bind fun bt139 => (if bt135.1 = bt137.1 then (if (bt135.2 != bt137.2) = true then (haulierlaw09_ViewLetters.j0 k a0 a1 true) else (if a1 ≥ 0 then (if (bt139.2 != (decide (a1 < 4))) = true then (haulierlaw09_ViewLetters.j0 k a0 a1 true) else (if bt139.2 = true then (if 0 ≤ a1 then (if a1 < 4 then (if bt139.1 = (bt (⟨#[82, 65, 87, 68]⟩ : ByteArray) a1) then (haulierlaw09_ViewLetters.j0 k a0 a1 false) else (haulierlaw09_ViewLetters.j0 k a0 a1 true)) else (none)) else (none)) else (haulierlaw09_ViewLetters.j0 k a0 a1 (bt139.1 != 0)))) else (if (bt139.2 != false) = true then (haulierlaw09_ViewLetters.j0 k a0 a1 true) else (if bt139.2 = true then (if 0 ≤ a1 then (if a1 < 4 then (if bt139.1 = (bt (⟨#[82, 65, 87, 68]⟩ : ByteArray) a1) then (haulierlaw09_ViewLetters.j0 k a0 a1 false) else (haulierlaw09_ViewLetters.j0 k a0 a1 true)) else (none)) else (none)) else (haulierlaw09_ViewLetters.j0 k a0 a1 (bt139.1 != 0)))))) else (haulierlaw09_ViewLetters.j0 k a0 a1 true)))))) = some r := h
  clear h
  by_cases c4 : (a0.size : Int) > 3000
  · rw [if_pos c4] at H
    have c4b0 : decide (3000 < (a0.size : Int)) = true := decide_eq_true c4
    have c4b1 : decide (3000 < a0.size) = true := decide_eq_true (by omega)
    clear c4
    replace H := Option.bind_eq_some_iff.mp H
    obtain ⟨t134, A50, H⟩ := H
    replace H : (some t134) = some r := H
    have A5 := Aside0.mk A50
    clear A50
    obtain rfl := Option.some.inj H
    go_enter Try.func5, Try.ntmps5
    go_wp2_with (first | ((with_reducible refine gate_callee (f := 8) rfl ?_); refine goesL_ (some 16) rfl rfl Try.func8 (by kernel_rfl) rfl #[] rfl (by (try simp only [List.map_toArray, List.map_cons, List.map_nil]); first | done | rfl | (simp only [List.length_drop, List.length_take]; rfl)) ?_; (with_reducible refine (haulierlaw09_alive.calls k  t134 _ A5.out).mono ?_); rintro e w6 ⟨rfl, hb⟩; refine ⟨_, rfl, ?_⟩; have n0_ := Aside0.mk (below_step (by repeat (first | (with_reducible first | exact HB.out | apply below_alloc | apply pw_below_drewN | apply below_drew1) | exact HB.out)) hb); clear HB; have HB := n0_; clear n0_; (try clear hb); (try clear hb2); (try clear hk); (try clear hi)))
    go_ret
    exact ⟨by first | rfl | (simp [errW_none, errW_some] <;> rfl) | (simp [*, errW_none, errW_some] <;> rfl), by repeat (first | (with_reducible first | exact HB.out | apply below_alloc | apply pw_below_drewN | apply below_drew1) | exact HB.out)⟩
  · rw [if_neg c4] at H
    have c4b0 : decide (3000 < (a0.size : Int)) = false := decide_eq_false c4
    have c4b1 : decide (3000 < a0.size) = false := decide_eq_false (by omega)
    clear c4
    replace H := Option.bind_eq_some_iff.mp H
    obtain ⟨⟨t135, t136⟩, A70, H⟩ := H
    replace H : ((haulierref09_Kind.f k a2).bind fun bt137 => ((view_Letter.f a1).bind fun bt139 => (if t135 = bt137.1 then (if (t136 != bt137.2) = true then (haulierlaw09_ViewLetters.j0 k a0 a1 true) else (if a1 ≥ 0 then (if (bt139.2 != (decide (a1 < 4))) = true then (haulierlaw09_ViewLetters.j0 k a0 a1 true) else (if bt139.2 = true then (if 0 ≤ a1 then (if a1 < 4 then (if bt139.1 = (bt (⟨#[82, 65, 87, 68]⟩ : ByteArray) a1) then (haulierlaw09_ViewLetters.j0 k a0 a1 false) else (haulierlaw09_ViewLetters.j0 k a0 a1 true)) else (none)) else (none)) else (haulierlaw09_ViewLetters.j0 k a0 a1 (bt139.1 != 0)))) else (if (bt139.2 != false) = true then (haulierlaw09_ViewLetters.j0 k a0 a1 true) else (if bt139.2 = true then (if 0 ≤ a1 then (if a1 < 4 then (if bt139.1 = (bt (⟨#[82, 65, 87, 68]⟩ : ByteArray) a1) then (haulierlaw09_ViewLetters.j0 k a0 a1 false) else (haulierlaw09_ViewLetters.j0 k a0 a1 true)) else (none)) else (none)) else (haulierlaw09_ViewLetters.j0 k a0 a1 (bt139.1 != 0)))))) else (haulierlaw09_ViewLetters.j0 k a0 a1 true)))) = some r := H
    have A7 := Aside0.mk A70
    clear A70
    replace H := Option.bind_eq_some_iff.mp H
    obtain ⟨⟨t137, t138⟩, A80, H⟩ := H
    replace H : ((view_Letter.f a1).bind fun bt139 => (if t135 = t137 then (if (t136 != t138) = true then (haulierlaw09_ViewLetters.j0 k a0 a1 true) else (if a1 ≥ 0 then (if (bt139.2 != (decide (a1 < 4))) = true then (haulierlaw09_ViewLetters.j0 k a0 a1 true) else (if bt139.2 = true then (if 0 ≤ a1 then (if a1 < 4 then (if bt139.1 = (bt (⟨#[82, 65, 87, 68]⟩ : ByteArray) a1) then (haulierlaw09_ViewLetters.j0 k a0 a1 false) else (haulierlaw09_ViewLetters.j0 k a0 a1 true)) else (none)) else (none)) else (haulierlaw09_ViewLetters.j0 k a0 a1 (bt139.1 != 0)))) else (if (bt139.2 != false) = true then (haulierlaw09_ViewLetters.j0 k a0 a1 true) else (if bt139.2 = true then (if 0 ≤ a1 then (if a1 < 4 then (if bt139.1 = (bt (⟨#[82, 65, 87, 68]⟩ : ByteArray) a1) then (haulierlaw09_ViewLetters.j0 k a0 a1 false) else (haulierlaw09_ViewLetters.j0 k a0 a1 true)) else (none)) else (none)) else (haulierlaw09_ViewLetters.j0 k a0 a1 (bt139.1 != 0)))))) else (haulierlaw09_ViewLetters.j0 k a0 a1 true))) = some r := H
    have A8 := Aside0.mk A80
    clear A80
    replace H := Option.bind_eq_some_iff.mp H
    obtain ⟨⟨t139, t140⟩, A90, H⟩ := H
    replace H : (if t135 = t137 then (if (t136 != t138) = true then (haulierlaw09_ViewLetters.j0 k a0 a1 true) else (if a1 ≥ 0 then (if (t140 != (decide (a1 < 4))) = true then (haulierlaw09_ViewLetters.j0 k a0 a1 true) else (if t140 = true then (if 0 ≤ a1 then (if a1 < 4 then (if t139 = (bt (⟨#[82, 65, 87, 68]⟩ : ByteArray) a1) then (haulierlaw09_ViewLetters.j0 k a0 a1 false) else (haulierlaw09_ViewLetters.j0 k a0 a1 true)) else (none)) else (none)) else (haulierlaw09_ViewLetters.j0 k a0 a1 (t139 != 0)))) else (if (t140 != false) = true then (haulierlaw09_ViewLetters.j0 k a0 a1 true) else (if t140 = true then (if 0 ≤ a1 then (if a1 < 4 then (if t139 = (bt (⟨#[82, 65, 87, 68]⟩ : ByteArray) a1) then (haulierlaw09_ViewLetters.j0 k a0 a1 false) else (haulierlaw09_ViewLetters.j0 k a0 a1 true)) else (none)) else (none)) else (haulierlaw09_ViewLetters.j0 k a0 a1 (t139 != 0)))))) else (haulierlaw09_ViewLetters.j0 k a0 a1 true)) = some r := H
    have A9 := Aside0.mk A90
    clear A90
    have HC10 := Aside0.mk H
    clear H
    go_enter Try.func5, Try.ntmps5
    go_upto_region 6 with (first | ((with_reducible refine gate_callee (f := 18) rfl ?_); refine goesL_ (some 19) rfl rfl Try.func18 (by kernel_rfl) rfl #[.int .u8 a2] rfl (by (try simp only [List.map_toArray, List.map_cons, List.map_nil]); first | done | rfl | (simp only [List.length_drop, List.length_take]; rfl)) ?_; (with_reducible refine (view_Kind.calls a2 t135 t136 _ A7.out).mono ?_); rintro e w' ⟨rfl, ⟨nd, rfl⟩⟩; refine ⟨_, rfl, ?_⟩) | ((with_reducible refine gate_callee (f := 19) rfl ?_); refine goesL_ (some 24) rfl rfl Try.func19 (by kernel_rfl) rfl #[.int .u8 a2] rfl (by (try simp only [List.map_toArray, List.map_cons, List.map_nil]); first | done | rfl | (simp only [List.length_drop, List.length_take]; rfl)) ?_; (with_reducible refine (haulierref09_Kind.calls k a2 t137 t138 _ A8.out).mono ?_); rintro e w' ⟨rfl, ⟨nd, rfl⟩⟩; refine ⟨_, rfl, ?_⟩) | ((with_reducible refine gate_callee (f := 20) rfl ?_); refine goesL_ (some 29) rfl rfl Try.func20 (by kernel_rfl) rfl #[.int .i64 a1] rfl (by (try simp only [List.map_toArray, List.map_cons, List.map_nil]); first | done | rfl | (simp only [List.length_drop, List.length_take]; rfl)) ?_; (with_reducible refine (view_Letter.calls a1 t139 t140 _ A9.out).mono ?_); rintro e w' ⟨rfl, ⟨nd, rfl⟩⟩; refine ⟨_, rfl, ?_⟩))
    (try simp only [Act.put, List.setIfInBounds_toArray, List.set_cons_zero, List.set_cons_succ])
    go_cut [66] (fun v66 wc => ∃ (kq : Nat) (x66_9 : Bool), v66 = .bool x66_9 ∧ Aside0 (haulierlaw09_ViewLetters.j0 kq a0 a1 x66_9 = some r) ∧ Aside0 (kq ≤ k) ∧ Aside0 (Below w.heap.size w wc))
    case first =>
      have H := HC10.out
      clear HC10
      by_cases c11 : t135 = t137
      · rw [if_pos c11] at H
        have c11b0 : (t135 == t137) = true := beq_iff_eq.mpr c11
        have c11b1 : (t135 != t137) = false := bne_eq_false_iff_eq.mpr c11
        clear c11
        (first | rw [c11b0] | (simp only [i64_w, i32_w]; rw [c11b0]) | skip)
        by_cases c12 : (t136 != t138) = true
        · rw [if_pos c12] at H
          have c12b0 : (t136 != t138) = true := c12
          (try (have c12b1 : decide (t136 = t138) = false := by simpa using c12))
          (try (have c12b2 : (t136 == t138) = false := by simpa using c12))
          (try (have c12b3 : ¬ (t136 = t138) := by simpa using c12))
          clear c12
          have H' := Aside0.mk H
          clear H
          go_wp2
          go_meet
          case rel => exact ⟨_, (true), (by first | rfl | (simp; done) | (simp [*]; done)), H', ⟨by first | omega | exact Nat.le_refl _⟩, ⟨by repeat (first | (with_reducible first | exact HB.out | apply below_alloc | apply pw_below_drewN | apply below_drew1) | exact HB.out)⟩⟩
        · rw [if_neg c12] at H
          have c12b0 : (t136 != t138) = false := by simpa using c12
          (try (have c12b1 : decide (t136 = t138) = true := by simpa using c12))
          (try (have c12b2 : (t136 == t138) = true := by simpa using c12))
          clear c12
          by_cases c13 : a1 ≥ 0
          · rw [if_pos c13] at H
            have c13b0 : decide (0 ≤ a1) = true := decide_eq_true c13
            clear c13
            by_cases c14 : (t140 != (decide (a1 < 4))) = true
            · rw [if_pos c14] at H
              have c14b0 : (t140 != (decide (a1 < 4))) = true := c14
              (try (have c14b1 : decide (t140 = (decide (a1 < 4))) = false := by simpa using c14))
              (try (have c14b2 : (t140 == (decide (a1 < 4))) = false := by simpa using c14))
              (try (have c14b3 : ¬ (t140 = (decide (a1 < 4))) := by simpa using c14))
              clear c14
              have H' := Aside0.mk H
              clear H
              go_wp2
              go_meet
              case rel => exact ⟨_, (true), (by first | rfl | (simp; done) | (simp [*]; done)), H', ⟨by first | omega | exact Nat.le_refl _⟩, ⟨by repeat (first | (with_reducible first | exact HB.out | apply below_alloc | apply pw_below_drewN | apply below_drew1) | exact HB.out)⟩⟩
            · rw [if_neg c14] at H
              have c14b0 : (t140 != (decide (a1 < 4))) = false := by simpa using c14
              (try (have c14b1 : decide (t140 = (decide (a1 < 4))) = true := by simpa using c14))
              (try (have c14b2 : (t140 == (decide (a1 < 4))) = true := by simpa using c14))
              clear c14
              by_cases c15 : t140 = true
              · subst c15
                have H1 : (if 0 ≤ a1 then (if a1 < 4 then (if t139 = (bt (⟨#[82, 65, 87, 68]⟩ : ByteArray) a1) then (haulierlaw09_ViewLetters.j0 k a0 a1 false) else (haulierlaw09_ViewLetters.j0 k a0 a1 true)) else (none)) else (none)) = some r := by rw [if_pos rfl] at H; exact H
                clear H
                have H := H1
                clear H1
                by_cases c16 : 0 ≤ a1
                · rw [if_pos c16] at H
                  have c16b0 : decide (0 ≤ a1) = true := decide_eq_true c16
                  clear c16
                  by_cases c17 : a1 < 4
                  · rw [if_pos c17] at H
                    have c17b0 : decide (a1 < 4) = true := decide_eq_true c17
                    clear c17
                    by_cases c19 : t139 = (bt (⟨#[82, 65, 87, 68]⟩ : ByteArray) a1)
                    · rw [if_pos c19] at H
                      have c19b0 : (t139 == (bt (⟨#[82, 65, 87, 68]⟩ : ByteArray) a1)) = true := beq_iff_eq.mpr c19
                      have c19b1 : (t139 != (bt (⟨#[82, 65, 87, 68]⟩ : ByteArray) a1)) = false := bne_eq_false_iff_eq.mpr c19
                      clear c19
                      have H' := Aside0.mk H
                      clear H
                      have p18 : 0 ≤ (a1 : Int) := of_decide_eq_true (by first | (with_reducible assumption) | assumption)
                      have q18 : a1 < (4 : Int) := of_decide_eq_true (by first | (with_reducible assumption) | assumption)
                      have hx18 := bt_at (⟨#[82, 65, 87, 68]⟩ : ByteArray) a1
                      replace p18 := eq_true p18
                      replace q18 := eq_true q18
                      go_wp2
                      go_meet
                      case rel => exact ⟨_, (false), (by first | rfl | (simp; done) | (simp [*]; done)), H', ⟨by first | omega | exact Nat.le_refl _⟩, ⟨by repeat (first | (with_reducible first | exact HB.out | apply below_alloc | apply pw_below_drewN | apply below_drew1) | exact HB.out)⟩⟩
                    · rw [if_neg c19] at H
                      have c19b0 : (t139 == (bt (⟨#[82, 65, 87, 68]⟩ : ByteArray) a1)) = false := beq_eq_false_iff_ne.mpr c19
                      have c19b1 : (t139 != (bt (⟨#[82, 65, 87, 68]⟩ : ByteArray) a1)) = true := bne_iff_ne.mpr c19
                      have H' := Aside0.mk H
                      clear H
                      have p18 : 0 ≤ (a1 : Int) := of_decide_eq_true (by first | (with_reducible assumption) | assumption)
                      have q18 : a1 < (4 : Int) := of_decide_eq_true (by first | (with_reducible assumption) | assumption)
                      have hx18 := bt_at (⟨#[82, 65, 87, 68]⟩ : ByteArray) a1
                      replace p18 := eq_true p18
                      replace q18 := eq_true q18
                      go_wp2
                      go_meet
                      case rel => exact ⟨_, (true), (by first | rfl | (simp; done) | (simp [*]; done)), H', ⟨by first | omega | exact Nat.le_refl _⟩, ⟨by repeat (first | (with_reducible first | exact HB.out | apply below_alloc | apply pw_below_drewN | apply below_drew1) | exact HB.out)⟩⟩
                  · rw [if_neg c17] at H
                    exact absurd H (by simp)
                · rw [if_neg c16] at H
                  exact absurd H (by simp)
              · replace c15 := Bool.eq_false_iff.mpr c15
                subst c15
                have H1 : (haulierlaw09_ViewLetters.j0 k a0 a1 (t139 != 0)) = some r := by rw [if_neg (show ¬ (false = true) by decide)] at H; exact H
                clear H
                have H := H1
                clear H1
                have H' := Aside0.mk H
                clear H
                go_wp2
                go_meet
                case rel => exact ⟨_, ((t139 != 0)), (by first | rfl | (simp; done) | (simp [*]; done)), H', ⟨by first | omega | exact Nat.le_refl _⟩, ⟨by repeat (first | (with_reducible first | exact HB.out | apply below_alloc | apply pw_below_drewN | apply below_drew1) | exact HB.out)⟩⟩
          · rw [if_neg c13] at H
            have c13b0 : decide (0 ≤ a1) = false := decide_eq_false c13
            clear c13
            by_cases c20 : (t140 != false) = true
            · rw [if_pos c20] at H
              have c20b0 : (t140 != false) = true := c20
              (try (have c20b1 : decide (t140 = false) = false := by simpa using c20))
              (try (have c20b2 : (t140 == false) = false := by simpa using c20))
              (try (have c20b3 : ¬ (t140 = false) := by simpa using c20))
              clear c20
              have H' := Aside0.mk H
              clear H
              go_wp2
              go_meet
              case rel => exact ⟨_, (true), (by first | rfl | (simp; done) | (simp [*]; done)), H', ⟨by first | omega | exact Nat.le_refl _⟩, ⟨by repeat (first | (with_reducible first | exact HB.out | apply below_alloc | apply pw_below_drewN | apply below_drew1) | exact HB.out)⟩⟩
            · rw [if_neg c20] at H
              have c20b0 : (t140 != false) = false := by simpa using c20
              (try (have c20b1 : decide (t140 = false) = true := by simpa using c20))
              (try (have c20b2 : (t140 == false) = true := by simpa using c20))
              clear c20
              by_cases c21 : t140 = true
              · subst c21
                have H1 : (if 0 ≤ a1 then (if a1 < 4 then (if t139 = (bt (⟨#[82, 65, 87, 68]⟩ : ByteArray) a1) then (haulierlaw09_ViewLetters.j0 k a0 a1 false) else (haulierlaw09_ViewLetters.j0 k a0 a1 true)) else (none)) else (none)) = some r := by rw [if_pos rfl] at H; exact H
                clear H
                have H := H1
                clear H1
                by_cases c22 : 0 ≤ a1
                · rw [if_pos c22] at H
                  have c22b0 : decide (0 ≤ a1) = true := decide_eq_true c22
                  clear c22
                  by_cases c23 : a1 < 4
                  · rw [if_pos c23] at H
                    have c23b0 : decide (a1 < 4) = true := decide_eq_true c23
                    clear c23
                    by_cases c25 : t139 = (bt (⟨#[82, 65, 87, 68]⟩ : ByteArray) a1)
                    · rw [if_pos c25] at H
                      have c25b0 : (t139 == (bt (⟨#[82, 65, 87, 68]⟩ : ByteArray) a1)) = true := beq_iff_eq.mpr c25
                      have c25b1 : (t139 != (bt (⟨#[82, 65, 87, 68]⟩ : ByteArray) a1)) = false := bne_eq_false_iff_eq.mpr c25
                      clear c25
                      have H' := Aside0.mk H
                      clear H
                      have p24 : 0 ≤ (a1 : Int) := of_decide_eq_true (by first | (with_reducible assumption) | assumption)
                      have q24 : a1 < (4 : Int) := of_decide_eq_true (by first | (with_reducible assumption) | assumption)
                      have hx24 := bt_at (⟨#[82, 65, 87, 68]⟩ : ByteArray) a1
                      replace p24 := eq_true p24
                      replace q24 := eq_true q24
                      go_wp2
                      go_meet
                      case rel => exact ⟨_, (false), (by first | rfl | (simp; done) | (simp [*]; done)), H', ⟨by first | omega | exact Nat.le_refl _⟩, ⟨by repeat (first | (with_reducible first | exact HB.out | apply below_alloc | apply pw_below_drewN | apply below_drew1) | exact HB.out)⟩⟩
                    · rw [if_neg c25] at H
                      have c25b0 : (t139 == (bt (⟨#[82, 65, 87, 68]⟩ : ByteArray) a1)) = false := beq_eq_false_iff_ne.mpr c25
                      have c25b1 : (t139 != (bt (⟨#[82, 65, 87, 68]⟩ : ByteArray) a1)) = true := bne_iff_ne.mpr c25
                      have H' := Aside0.mk H
                      clear H
                      have p24 : 0 ≤ (a1 : Int) := of_decide_eq_true (by first | (with_reducible assumption) | assumption)
                      have q24 : a1 < (4 : Int) := of_decide_eq_true (by first | (with_reducible assumption) | assumption)
                      have hx24 := bt_at (⟨#[82, 65, 87, 68]⟩ : ByteArray) a1
                      replace p24 := eq_true p24
                      replace q24 := eq_true q24
                      go_wp2
                      go_meet
                      case rel => exact ⟨_, (true), (by first | rfl | (simp; done) | (simp [*]; done)), H', ⟨by first | omega | exact Nat.le_refl _⟩, ⟨by repeat (first | (with_reducible first | exact HB.out | apply below_alloc | apply pw_below_drewN | apply below_drew1) | exact HB.out)⟩⟩
                  · rw [if_neg c23] at H
                    exact absurd H (by simp)
                · rw [if_neg c22] at H
                  exact absurd H (by simp)
              · replace c21 := Bool.eq_false_iff.mpr c21
                subst c21
                have H1 : (haulierlaw09_ViewLetters.j0 k a0 a1 (t139 != 0)) = some r := by rw [if_neg (show ¬ (false = true) by decide)] at H; exact H
                clear H
                have H := H1
                clear H1
                have H' := Aside0.mk H
                clear H
                go_wp2
                go_meet
                case rel => exact ⟨_, ((t139 != 0)), (by first | rfl | (simp; done) | (simp [*]; done)), H', ⟨by first | omega | exact Nat.le_refl _⟩, ⟨by repeat (first | (with_reducible first | exact HB.out | apply below_alloc | apply pw_below_drewN | apply below_drew1) | exact HB.out)⟩⟩
      · rw [if_neg c11] at H
        have c11b0 : (t135 == t137) = false := beq_eq_false_iff_ne.mpr c11
        have c11b1 : (t135 != t137) = true := bne_iff_ne.mpr c11
        (first | rw [c11b0] | (simp only [i64_w, i32_w]; rw [c11b0]) | skip)
        have H' := Aside0.mk H
        clear H
        go_wp2
        go_meet
        case rel => exact ⟨_, (true), (by first | rfl | (simp; done) | (simp [*]; done)), H', ⟨by first | omega | exact Nat.le_refl _⟩, ⟨by repeat (first | (with_reducible first | exact HB.out | apply below_alloc | apply pw_below_drewN | apply below_drew1) | exact HB.out)⟩⟩
    case rest =>
      clear HC10
      try clear c1
      try clear p1
      try clear q1
      try clear hx1
      try clear c2
      try clear p2
      try clear q2
      try clear hx2
      try clear c4
      try clear c4b0
      try clear c4b1
      try clear c5
      try clear c8
      try clear c11
      try clear c11b0
      try clear c11b1
      try clear c12
      try clear c12b0
      try clear c12b1
      try clear c12b2
      try clear c13
      try clear c13b0
      try clear c14
      try clear c14b0
      try clear c14b1
      try clear c14b2
      try clear c15
      try clear c16
      try clear c16b0
      try clear c17
      try clear c17b0
      try clear c18
      try clear p18
      try clear q18
      try clear hx18
      try clear c19
      try clear c19b0
      try clear c19b1
      try clear c20
      try clear c20b0
      try clear c20b1
      try clear c20b2
      try clear c21
      try clear c22
      try clear c22b0
      try clear c23
      try clear c23b0
      try clear p24
      try clear q24
      try clear hx24
      try clear c25
      try clear c25b0
      try clear c25b1
      try clear p18
      try clear p24
      try clear q18
      try clear q24
      obtain ⟨kq, x66_9, rfl, HA, HJ9, HB⟩ := hcut
      cases kq with
      | zero => exact absurd HA.out (by simp [haulierlaw09_ViewLetters.j0])
      | succ kj9 =>
        have H := HA.out
        clear HA
        simp only [haulierlaw09_ViewLetters.j0] at H
        by_cases c26 : x66_9 = true
        · subst c26
          have H1 : (none) = some r := by rw [if_pos rfl] at H; exact H
          clear H
          have H := H1
          clear H1
          exact absurd H (by simp)
        · replace c26 := Bool.eq_false_iff.mpr c26
          subst c26
          have H1 : ((view_Spells.f kj9 a0 a1).bind fun t141 => ((haulierref09_Spells.f kj9 a0 a1).bind fun t144 => ((haulierref03_Same.f kj9 t141 t144).bind fun t147 => (if t147 = true then ((haulierlaw09_alive.f kj9).bind fun t148 => (some t148)) else (none))))) = some r := by rw [if_neg (show ¬ (false = true) by decide)] at H; exact H
          clear H
          have H := H1
          clear H1
          replace H := Option.bind_eq_some_iff.mp H
          obtain ⟨t141, A270, H⟩ := H
          replace H : ((haulierref09_Spells.f kj9 a0 a1).bind fun t144 => ((haulierref03_Same.f kj9 t141 t144).bind fun t147 => (if t147 = true then ((haulierlaw09_alive.f kj9).bind fun t148 => (some t148)) else (none)))) = some r := H
          have A27 := Aside0.mk A270
          clear A270
          replace H := Option.bind_eq_some_iff.mp H
          obtain ⟨t144, A280, H⟩ := H
          replace H : ((haulierref03_Same.f kj9 t141 t144).bind fun t147 => (if t147 = true then ((haulierlaw09_alive.f kj9).bind fun t148 => (some t148)) else (none))) = some r := H
          have A28 := Aside0.mk A280
          clear A280
          replace H := Option.bind_eq_some_iff.mp H
          obtain ⟨t147, A290, H⟩ := H
          replace H : (if t147 = true then ((haulierlaw09_alive.f kj9).bind fun t148 => (some t148)) else (none)) = some r := H
          have A29 := Aside0.mk A290
          clear A290
          by_cases c30 : t147 = true
          · subst c30
            have H1 : ((haulierlaw09_alive.f kj9).bind fun t148 => (some t148)) = some r := by rw [if_pos rfl] at H; exact H
            clear H
            have H := H1
            clear H1
            replace H := Option.bind_eq_some_iff.mp H
            obtain ⟨t148, A310, H⟩ := H
            replace H : (some t148) = some r := H
            have A31 := Aside0.mk A310
            clear A310
            obtain rfl := Option.some.inj H
            go_wp2_with (first | ((with_reducible refine gate_callee (f := 22) rfl ?_); refine goesL_ (some 69) rfl rfl Try.func22 (by kernel_rfl) rfl #[.string a0, .int .i64 a1] rfl (by (try simp only [List.map_toArray, List.map_cons, List.map_nil]); first | done | rfl | (simp only [List.length_drop, List.length_take]; rfl)) ?_; (with_reducible refine (view_Spells.calls kj9 a0 a1 t141 _ A27.out).mono ?_); rintro e w32 ⟨v142, rfl, ho0, hb⟩; refine ⟨_, rfl, ?_⟩; have n0_ := Aside0.mk (Kd.R_lower ho0 (below_size (by repeat (first | (with_reducible first | exact HB.out | apply below_alloc | apply pw_below_drewN | apply below_drew1) | exact HB.out)))); have n1_ := Aside0.mk (below_step (by repeat (first | (with_reducible first | exact HB.out | apply below_alloc | apply pw_below_drewN | apply below_drew1) | exact HB.out)) hb); clear HB; have HO143 := n0_; have HB := n1_; clear n0_ n1_; (try clear hb); (try clear hb2); (try clear hk); (try clear hi); (try clear ho0)) | ((with_reducible refine gate_callee (f := 23) rfl ?_); refine goesL_ (some 72) rfl rfl Try.func23 (by kernel_rfl) rfl #[.string a0, .int .i64 a1] rfl (by (try simp only [List.map_toArray, List.map_cons, List.map_nil]); first | done | rfl | (simp only [List.length_drop, List.length_take]; rfl)) ?_; (with_reducible refine (haulierref09_Spells.calls kj9 a0 a1 t144 _ A28.out).mono ?_); rintro e w33 ⟨v145, rfl, ho0, hb⟩; refine ⟨_, rfl, ?_⟩; have n0_ := Aside0.mk (Kd.R_elder' (by (with_reducible repeat (first | apply Kd.R_alloc | apply Kd.R_drewN | apply Kd.R_drew)); exact HO143.out) (Kd.R_base ho0) hb); have n1_ := Aside0.mk (Kd.R_lower (Kd.R_new' ho0 (Kd.R_lt (by (with_reducible repeat (first | apply Kd.R_alloc | apply Kd.R_drewN | apply Kd.R_drew)); exact HO143.out))) (below_size (by repeat (first | (with_reducible first | exact HB.out | apply below_alloc | apply pw_below_drewN | apply below_drew1) | exact HB.out)))); have n2_ := Aside0.mk (below_step (by repeat (first | (with_reducible first | exact HB.out | apply below_alloc | apply pw_below_drewN | apply below_drew1) | exact HB.out)) hb); clear HO143; clear HB; have HO143 := n0_; have HO146 := n1_; have HB := n2_; clear n0_ n1_ n2_; (try clear hb); (try clear hb2); (try clear hk); (try clear hi); (try clear ho0); obtain ⟨Ao34, co34, eo34⟩ := Kd.R_slice HO143.out; subst eo34; obtain ⟨Ao35, co35, eo35⟩ := Kd.R_slice HO146.out; subst eo35) | ((with_reducible refine gate_callee (f := 21) rfl ?_); refine goesL_ (some 73) rfl rfl Try.func21 (by kernel_rfl) rfl #[.slice Ao34 t141.length co34, .slice Ao35 t144.length co35] rfl (by (try simp only [List.map_toArray, List.map_cons, List.map_nil]); first | done | rfl | (simp only [List.length_drop, List.length_take]; rfl)) ?_; (with_reducible refine (haulierref03_Same.calls kj9 _ _ t141 _ _ t144 true _ ?side1 ?side2 ?side3 ?side4 A29.out).mono ?_); (case side1 => repeat (first | exact (Kd.R_reads' HO143.out).2.2 | (with_reducible refine Kd.C_alloc ?_ _) | (with_reducible refine Kd.C_drewN ?_ _) | (with_reducible refine Kd.C_drew ?_))); (case side2 => exact (Kd.R_reads' HO143.out).2.1); (case side3 => repeat (first | exact (Kd.R_reads' HO146.out).2.2 | (with_reducible refine Kd.C_alloc ?_ _) | (with_reducible refine Kd.C_drewN ?_ _) | (with_reducible refine Kd.C_drew ?_))); (case side4 => exact (Kd.R_reads' HO146.out).2.1); rintro e w' ⟨rfl, ⟨nd, rfl⟩⟩; refine ⟨_, rfl, ?_⟩) | (go_at_call 8; (with_reducible refine (haulierlaw09_alive.calls kj9  t148 _ A31.out).mono ?_); rintro e w36 ⟨rfl, hb⟩; have n0_ := Aside0.mk (Kd.R_below (by (with_reducible repeat (first | apply Kd.R_alloc | apply Kd.R_drewN | apply Kd.R_drew)); exact HO143.out) hb); have n1_ := Aside0.mk (Kd.R_below (by (with_reducible repeat (first | apply Kd.R_alloc | apply Kd.R_drewN | apply Kd.R_drew)); exact HO146.out) hb); have n2_ := Aside0.mk (below_step (by repeat (first | (with_reducible first | exact HB.out | apply below_alloc | apply pw_below_drewN | apply below_drew1) | exact HB.out)) hb); clear HO143; clear HO146; clear HB; have HO143 := n0_; have HO146 := n1_; have HB := n2_; clear n0_ n1_ n2_; (try clear hb); (try clear hb2); (try clear hk); (try clear hi)))
            go_ret
            exact ⟨by first | rfl | (simp [errW_none, errW_some] <;> rfl) | (simp [*, errW_none, errW_some] <;> rfl), by repeat (first | (with_reducible first | exact HB.out | apply below_alloc | apply pw_below_drewN | apply below_drew1) | exact HB.out)⟩
          · replace c30 := Bool.eq_false_iff.mpr c30
            subst c30
            have H1 : (none) = some r := by rw [if_neg (show ¬ (false = true) by decide)] at H; exact H
            clear H
            have H := H1
            clear H1
            exact absurd H (by simp)

/-- THE ONE PURE STATEMENT of haulierlaw09_ViewLetters. -/
def haulierlaw09_ViewLetters.Pure : Prop := ∀ (a0 : ByteArray) (a1 : Int) (a2 : Int), a0.size ≤ 140737488351232 → (Lit.int .i64 a1).wf = true → (Lit.int .u8 a2).wf = true → ∃ k, haulierlaw09_ViewLetters.f k a0 a1 a2 = some true

end Go.Proofs.Ytegmofaiobdilaa.MViewLetters
