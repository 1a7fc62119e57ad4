/- Written by a program of this session: Go functions that the law DiscEncodes reaches, as Lean functions, each with a proof that the Go code comes to just what it says; every input of the kinds that a contract names. -/
import Derived.Test.YtjpnfhnmcgejhaaMDiscEncodesx0
import Derived.Test.YtjpnfhnmcgejhaaMDiscEncodesx1
import Derived.Test.YtjpnfhnmcgejhaaMDiscEncodesx2
import Derived.Test.YtjpnfhnmcgejhaaMDiscEncodesx3
import Derived.Test.YtjpnfhnmcgejhaaMDiscEncodesx4
namespace Go.Proofs.Ytjpnfhnmcgejhaa.MDiscEncodes
open Go.RowKit Go.Proofs.YtjpnfhnmcgejhaaW.PrintWords Go.Proofs.YtjpnfhnmcgejhaaW.PrintLast Go.Proofs.YtjpnfhnmcgejhaaW.PrintMore
attribute [local go_sem] max2_int min2_int max_two min_two max_three min_three max_four min_four   -- for this text's walks alone
set_option linter.unusedVariables false
set_option linter.unusedSimpArgs false
set_option linter.unnecessarySimpa false

/-! ### haulierref11_Encode: function 11 -/
mutual
def haulierref11_Encode.l0 : Nat → Int → List Int → ByteArray → ByteArray → Int → Int → Option (ByteArray × Int)
  | 0, _, _, _, _, _, _ => none
  | k + 1, x6, x7, x8, x9, x10, x11 => if x11 < (x7.length : Int) then (if x11 = 0 then (haulierref11_Encode.j1 k x6 x7 x8 x9 x10 x11 (wrap64 (x6 + x11)) true) else (haulierref11_Encode.j1 k x6 x7 x8 x9 x10 x11 (wrap64 (x6 + x11)) ((Int.tmod (wrap64 (x6 + x11)) 1440) == 0))) else ((haulierref05_Put.f x10).bind fun t159 => (if x8.size + t159.size ≤ 9223372036854775807 then (if (x8 ++ t159).size + x9.size ≤ 9223372036854775807 then ((haulierref05_Seal.f k ((x8 ++ t159) ++ x9)).bind fun t160 => (some (t160, 0))) else (none)) else (none)))
def haulierref11_Encode.j1 : Nat → Int → List Int → ByteArray → ByteArray → Int → Int → Int → Bool → Option (ByteArray × Int)
  | 0, _, _, _, _, _, _, _, _ => none
  | k + 1, x6, x7, x8, x9, x10, x11, x12, x13 => if x13 = true then (haulierref11_Encode.j2 k x6 x7 x8 x9 x10 x11 x12 x13 (decide (x11 > 0))) else (haulierref11_Encode.j2 k x6 x7 x8 x9 x10 x11 x12 x13 false)
def haulierref11_Encode.j2 : Nat → Int → List Int → ByteArray → ByteArray → Int → Int → Int → Bool → Bool → Option (ByteArray × Int)
  | 0, _, _, _, _, _, _, _, _, _ => none
  | k + 1, x6, x7, x8, x9, x10, x11, x12, x13, x56 => if x56 = true then ((haulierref05_Put.f x10).bind fun t161 => (if x8.size + t161.size ≤ 9223372036854775807 then (if (x8 ++ t161).size + x9.size ≤ 9223372036854775807 then (if x13 = true then (if 0 ≤ x11 then (if x11 < (x7.length : Int) then ((haulierref05_Put.f (wrap64 ((wrap64 (2048 * (rd x7 x11))) + (Int.tmod x12 1440)))).bind fun t163 => (if 0 + t163.size ≤ 9223372036854775807 then (haulierref11_Encode.l0 k x6 x7 ((x8 ++ t161) ++ x9) ((⟨#[]⟩ : ByteArray) ++ t163) (0 + 1) (wrap64 (x11 + 1))) else (none))) else (none)) else (none)) else (if 0 ≤ x11 then (if x11 < (x7.length : Int) then (if 0 ≤ (wrap64 (x11 - 1)) then (if (wrap64 (x11 - 1)) < (x7.length : Int) then (if (rd x7 x11) = (rd x7 (wrap64 (x11 - 1))) then (haulierref11_Encode.l0 k x6 x7 ((x8 ++ t161) ++ x9) (⟨#[]⟩ : ByteArray) 0 (wrap64 (x11 + 1))) else ((haulierref05_Put.f (wrap64 ((wrap64 (2048 * (rd x7 x11))) + (Int.tmod x12 1440)))).bind fun t167 => (if 0 + t167.size ≤ 9223372036854775807 then (haulierref11_Encode.l0 k x6 x7 ((x8 ++ t161) ++ x9) ((⟨#[]⟩ : ByteArray) ++ t167) (0 + 1) (wrap64 (x11 + 1))) else (none)))) else (none)) else (none)) else (none)) else (none))) else (none)) else (none))) else (if x13 = true then (if 0 ≤ x11 then (if x11 < (x7.length : Int) then ((haulierref05_Put.f (wrap64 ((wrap64 (2048 * (rd x7 x11))) + (Int.tmod x12 1440)))).bind fun t169 => (if x9.size + t169.size ≤ 9223372036854775807 then (haulierref11_Encode.l0 k x6 x7 x8 (x9 ++ t169) (wrap64 (x10 + 1)) (wrap64 (x11 + 1))) else (none))) else (none)) else (none)) else (if 0 ≤ x11 then (if x11 < (x7.length : Int) then (if 0 ≤ (wrap64 (x11 - 1)) then (if (wrap64 (x11 - 1)) < (x7.length : Int) then (if (rd x7 x11) = (rd x7 (wrap64 (x11 - 1))) then (haulierref11_Encode.l0 k x6 x7 x8 x9 x10 (wrap64 (x11 + 1))) else ((haulierref05_Put.f (wrap64 ((wrap64 (2048 * (rd x7 x11))) + (Int.tmod x12 1440)))).bind fun t173 => (if x9.size + t173.size ≤ 9223372036854775807 then (haulierref11_Encode.l0 k x6 x7 x8 (x9 ++ t173) (wrap64 (x10 + 1)) (wrap64 (x11 + 1))) else (none)))) else (none)) else (none)) else (none)) else (none)))
end
def haulierref11_Encode.f (k : Nat) (l0 : List (S48)) : Option (ByteArray × Int) := (haulierref08_Check.f k l0).bind fun bt150 => (if bt150.2 = 0 then (if (l0.length : Int) = 0 then (some ((⟨#[]⟩ : ByteArray), 13)) else ((haulierref08_Begin.f l0).bind fun t152 => ((haulierref08_Kinds.f k l0).bind fun t153 => ((haulierref05_Put.f t152).bind fun t156 => (if 2 + t156.size ≤ 9223372036854775807 then ((haulierref08_End.f l0).bind fun t157 => ((haulierref05_Put.f t157).bind fun t158 => (if ((⟨#[72, 68]⟩ : ByteArray) ++ t156).size + t158.size ≤ 9223372036854775807 then (haulierref11_Encode.l0 k t152 t153 (((⟨#[72, 68]⟩ : ByteArray) ++ t156) ++ t158) (⟨#[]⟩ : ByteArray) 0 0) else (none)))) else (none)))))) else (some ((⟨#[]⟩ : ByteArray), bt150.2)))
theorem haulierref11_Encode.mono_l : ∀ k, (∀ y0 y1 y2 y3 y4 y5, LeO (haulierref11_Encode.l0 k y0 y1 y2 y3 y4 y5) (haulierref11_Encode.l0 (k + 1) y0 y1 y2 y3 y4 y5)) ∧ (∀ y0 y1 y2 y3 y4 y5 y6 y7, LeO (haulierref11_Encode.j1 k y0 y1 y2 y3 y4 y5 y6 y7) (haulierref11_Encode.j1 (k + 1) y0 y1 y2 y3 y4 y5 y6 y7)) ∧ (∀ y0 y1 y2 y3 y4 y5 y6 y7 y8, LeO (haulierref11_Encode.j2 k y0 y1 y2 y3 y4 y5 y6 y7 y8) (haulierref11_Encode.j2 (k + 1) y0 y1 y2 y3 y4 y5 y6 y7 y8))
  | 0 => ⟨fun _ _ _ _ _ _ r h => by simp [haulierref11_Encode.l0] at h, fun _ _ _ _ _ _ _ _ r h => by simp [haulierref11_Encode.j1] at h, fun _ _ _ _ _ _ _ _ _ r h => by simp [haulierref11_Encode.j2] at h⟩
  | k + 1 => by
    obtain ⟨ih0, ih1, ih2⟩ := haulierref11_Encode.mono_l k
    refine ⟨?_, ?_, ?_⟩
    · intro y0 y1 y2 y3 y4 y5
      unfold haulierref11_Encode.l0
      repeat' first
      | (with_reducible exact ih0 _ _ _ _ _ _)
      | (with_reducible exact ih1 _ _ _ _ _ _ _ _)
      | (with_reducible exact ih2 _ _ _ _ _ _ _ _ _)
      | (with_reducible exact haulierref05_Seal.mono _ _)
      | (with_reducible exact haulierref08_Check.mono _ _)
      | (with_reducible exact haulierref08_Kinds.mono _ _)
      | (with_reducible exact LeO.refl _)
      | (with_reducible exact LeO.none _)
      | (with_reducible refine LeO.ite ?_ ?_)
      | (with_reducible refine LeO.bind ?_ (fun _ => ?_))
      | exact ih0 _ _ _ _ _ _
      | exact ih1 _ _ _ _ _ _ _ _
      | exact ih2 _ _ _ _ _ _ _ _ _
      | exact haulierref05_Seal.mono _ _
      | exact haulierref08_Check.mono _ _
      | exact haulierref08_Kinds.mono _ _
      | exact LeO.none _
      | refine LeO.ite ?_ ?_
      | refine LeO.bind ?_ (fun _ => ?_)
    · intro y0 y1 y2 y3 y4 y5 y6 y7
      unfold haulierref11_Encode.j1
      repeat' first
      | (with_reducible exact ih0 _ _ _ _ _ _)
      | (with_reducible exact ih1 _ _ _ _ _ _ _ _)
      | (with_reducible exact ih2 _ _ _ _ _ _ _ _ _)
      | (with_reducible exact haulierref05_Seal.mono _ _)
      | (with_reducible exact haulierref08_Check.mono _ _)
      | (with_reducible exact haulierref08_Kinds.mono _ _)
      | (with_reducible exact LeO.refl _)
      | (with_reducible exact LeO.none _)
      | (with_reducible refine LeO.ite ?_ ?_)
      | (with_reducible refine LeO.bind ?_ (fun _ => ?_))
      | exact ih0 _ _ _ _ _ _
      | exact ih1 _ _ _ _ _ _ _ _
      | exact ih2 _ _ _ _ _ _ _ _ _
      | exact haulierref05_Seal.mono _ _
      | exact haulierref08_Check.mono _ _
      | exact haulierref08_Kinds.mono _ _
      | exact LeO.none _
      | refine LeO.ite ?_ ?_
      | refine LeO.bind ?_ (fun _ => ?_)
    · intro y0 y1 y2 y3 y4 y5 y6 y7 y8
      unfold haulierref11_Encode.j2
      repeat' first
      | (with_reducible exact ih0 _ _ _ _ _ _)
      | (with_reducible exact ih1 _ _ _ _ _ _ _ _)
      | (with_reducible exact ih2 _ _ _ _ _ _ _ _ _)
      | (with_reducible exact haulierref05_Seal.mono _ _)
      | (with_reducible exact haulierref08_Check.mono _ _)
      | (with_reducible exact haulierref08_Kinds.mono _ _)
      | (with_reducible exact LeO.refl _)
      | (with_reducible exact LeO.none _)
      | (with_reducible refine LeO.ite ?_ ?_)
      | (with_reducible refine LeO.bind ?_ (fun _ => ?_))
      | exact ih0 _ _ _ _ _ _
      | exact ih1 _ _ _ _ _ _ _ _
      | exact ih2 _ _ _ _ _ _ _ _ _
      | exact haulierref05_Seal.mono _ _
      | exact haulierref08_Check.mono _ _
      | exact haulierref08_Kinds.mono _ _
      | exact LeO.none _
      | refine LeO.ite ?_ ?_
      | refine LeO.bind ?_ (fun _ => ?_)
theorem haulierref11_Encode.mono : ∀ a0 k, LeO (haulierref11_Encode.f k a0) (haulierref11_Encode.f (k + 1) a0) := by
  intro a0 k
  obtain ⟨ih0, ih1, ih2⟩ := haulierref11_Encode.mono_l k
  unfold haulierref11_Encode.f
  repeat' first
      | (with_reducible exact ih0 _ _ _ _ _ _)
      | (with_reducible exact ih1 _ _ _ _ _ _ _ _)
      | (with_reducible exact ih2 _ _ _ _ _ _ _ _ _)
      | (with_reducible exact haulierref05_Seal.mono _ _)
      | (with_reducible exact haulierref08_Check.mono _ _)
      | (with_reducible exact haulierref08_Kinds.mono _ _)
      | (with_reducible exact LeO.refl _)
      | (with_reducible exact LeO.none _)
      | (with_reducible refine LeO.ite ?_ ?_)
      | (with_reducible refine LeO.bind ?_ (fun _ => ?_))
      | exact ih0 _ _ _ _ _ _
      | exact ih1 _ _ _ _ _ _ _ _
      | exact ih2 _ _ _ _ _ _ _ _ _
      | exact haulierref05_Seal.mono _ _
      | exact haulierref08_Check.mono _ _
      | exact haulierref08_Kinds.mono _ _
      | exact LeO.none _
      | refine LeO.ite ?_ ?_
      | refine LeO.bind ?_ (fun _ => ?_)
set_option maxHeartbeats 8000000 in
set_option maxRecDepth 100000 in
theorem haulierref11_Encode.calls (k : Nat) (A0 : Option Addr) (c0 : Nat) (l0 : List (S48)) (r1 : ByteArray) (r2 : Int) (w : World) (hr0 : Kd.C k48 w A0 l0.length l0) (hc0 : l0.length ≤ c0) (h : haulierref11_Encode.f k l0 = some (r1, r2)) :
    Calls Try.prog 11 #[.slice A0 l0.length c0] w fun e w' => e = .returned (.tuple #[.string r1, .int .i64 r2]) ∧ Below w.heap.size w w' := by
  have HR0 := Aside0.mk hr0
  have HC0 := Aside0.mk hc0
  clear hr0 hc0
  have HB := Aside0.mk (Below.refl w.heap.size w)
  have H : ((haulierref08_Check.f k l0).bind fun bt150 => (if bt150.2 = 0 then (if (l0.length : Int) = 0 then (some ((⟨#[]⟩ : ByteArray), 13)) else ((haulierref08_Begin.f l0).bind fun t152 => ((haulierref08_Kinds.f k l0).bind fun t153 => ((haulierref05_Put.f t152).bind fun t156 => (if 2 + t156.size ≤ 9223372036854775807 then ((haulierref08_End.f l0).bind fun t157 => ((haulierref05_Put.f t157).bind fun t158 => (if ((⟨#[72, 68]⟩ : ByteArray) ++ t156).size + t158.size ≤ 9223372036854775807 then (haulierref11_Encode.l0 k t152 t153 (((⟨#[72, 68]⟩ : ByteArray) ++ t156) ++ t158) (⟨#[]⟩ : ByteArray) 0 0) else (none)))) else (none)))))) else (some ((⟨#[]⟩ : ByteArray), bt150.2)))) = some (r1, r2) := h
  clear h
  replace H := Option.bind_eq_some_iff.mp H
  obtain ⟨⟨t150, t151⟩, A20, H⟩ := H
  replace H : (if t151 = 0 then (if (l0.length : Int) = 0 then (some ((⟨#[]⟩ : ByteArray), 13)) else ((haulierref08_Begin.f l0).bind fun t152 => ((haulierref08_Kinds.f k l0).bind fun t153 => ((haulierref05_Put.f t152).bind fun t156 => (if 2 + t156.size ≤ 9223372036854775807 then ((haulierref08_End.f l0).bind fun t157 => ((haulierref05_Put.f t157).bind fun t158 => (if ((⟨#[72, 68]⟩ : ByteArray) ++ t156).size + t158.size ≤ 9223372036854775807 then (haulierref11_Encode.l0 k t152 t153 (((⟨#[72, 68]⟩ : ByteArray) ++ t156) ++ t158) (⟨#[]⟩ : ByteArray) 0 0) else (none)))) else (none)))))) else (some ((⟨#[]⟩ : ByteArray), t151))) = some (r1, r2) := H
  have A2 := Aside0.mk A20
  clear A20
  by_cases c3 : t151 = 0
  · rw [if_pos c3] at H
    have c3b0 : (t151 == 0) = true := beq_iff_eq.mpr c3
    have c3b1 : (t151 != 0) = false := bne_eq_false_iff_eq.mpr c3
    clear c3
    by_cases c4 : (l0.length : Int) = 0
    · rw [if_pos c4] at H
      have c4b0 : ((l0.length : Int) == 0) = true := beq_iff_eq.mpr c4
      have c4b1 : ((l0.length : Int) != 0) = false := bne_eq_false_iff_eq.mpr c4
      clear c4
      simp only [Option.some.injEq, Prod.mk.injEq] at H
      obtain ⟨rfl, rfl⟩ := H
      go_enter Try.func11, Try.ntmps11
      go_wp2_with (first | (go_at_call 20; (with_reducible refine (haulierref08_Check.calls k _ _ l0 t150 t151 _ ?side1 ?side2 A2.out).mono ?_); (case side1 => repeat (first | exact HR0.out | (with_reducible refine Kd.C_alloc ?_ _) | (with_reducible refine Kd.C_drewN ?_ _) | (with_reducible refine Kd.C_drew ?_))); (case side2 => exact HC0.out); rintro e w5 ⟨rfl, hb⟩; have n0_ := Aside0.mk (below_step (by repeat (first | (with_reducible first | exact HB.out | apply below_alloc | apply pw_below_drewN | apply below_drew1) | exact HB.out)) hb); clear HB; have HB := n0_; clear n0_; (try clear hb); (try clear hb2); (try clear hk); (try clear hi)))
      repeat (go_quiet (first | (go_at_call 20; (with_reducible refine (haulierref08_Check.calls k _ _ l0 t150 t151 _ ?side1 ?side2 A2.out).mono ?_); (case side1 => repeat (first | exact HR0.out | (with_reducible refine Kd.C_alloc ?_ _) | (with_reducible refine Kd.C_drewN ?_ _) | (with_reducible refine Kd.C_drew ?_))); (case side2 => exact HC0.out); rintro e w5 ⟨rfl, hb⟩; have n0_ := Aside0.mk (below_step (by repeat (first | (with_reducible first | exact HB.out | apply below_alloc | apply pw_below_drewN | apply below_drew1) | exact HB.out)) hb); clear HB; have HB := n0_; clear n0_; (try clear hb); (try clear hb2); (try clear hk); (try clear hi))); try go_wp2_with (first | (go_at_call 20; (with_reducible refine (haulierref08_Check.calls k _ _ l0 t150 t151 _ ?side1 ?side2 A2.out).mono ?_); (case side1 => repeat (first | exact HR0.out | (with_reducible refine Kd.C_alloc ?_ _) | (with_reducible refine Kd.C_drewN ?_ _) | (with_reducible refine Kd.C_drew ?_))); (case side2 => exact HC0.out); rintro e w5 ⟨rfl, hb⟩; have n0_ := Aside0.mk (below_step (by repeat (first | (with_reducible first | exact HB.out | apply below_alloc | apply pw_below_drewN | apply below_drew1) | exact HB.out)) hb); clear HB; have HB := n0_; clear n0_; (try clear hb); (try clear hb2); (try clear hk); (try clear hi))))
      go_ret2
      exact ⟨by first | rfl | (simp [errW_none, errW_some] <;> rfl) | (simp [*, errW_none, errW_some] <;> rfl), by repeat (first | (with_reducible first | exact HB.out | apply below_alloc | apply pw_below_drewN | apply below_drew1) | exact HB.out)⟩
    · rw [if_neg c4] at H
      have c4b0 : ((l0.length : Int) == 0) = false := beq_eq_false_iff_ne.mpr c4
      have c4b1 : ((l0.length : Int) != 0) = true := bne_iff_ne.mpr c4
      have c4b2 : ¬ (l0 = []) := fun h_ => c4 (by rw [h_]; rfl)
      replace H := Option.bind_eq_some_iff.mp H
      obtain ⟨t152, A60, H⟩ := H
      replace H : ((haulierref08_Kinds.f k l0).bind fun t153 => ((haulierref05_Put.f t152).bind fun t156 => (if 2 + t156.size ≤ 9223372036854775807 then ((haulierref08_End.f l0).bind fun t157 => ((haulierref05_Put.f t157).bind fun t158 => (if ((⟨#[72, 68]⟩ : ByteArray) ++ t156).size + t158.size ≤ 9223372036854775807 then (haulierref11_Encode.l0 k t152 t153 (((⟨#[72, 68]⟩ : ByteArray) ++ t156) ++ t158) (⟨#[]⟩ : ByteArray) 0 0) else (none)))) else (none)))) = some (r1, r2) := H
      have A6 := Aside0.mk A60
      clear A60
      replace H := Option.bind_eq_some_iff.mp H
      obtain ⟨t153, A70, H⟩ := H
      replace H : ((haulierref05_Put.f t152).bind fun t156 => (if 2 + t156.size ≤ 9223372036854775807 then ((haulierref08_End.f l0).bind fun t157 => ((haulierref05_Put.f t157).bind fun t158 => (if ((⟨#[72, 68]⟩ : ByteArray) ++ t156).size + t158.size ≤ 9223372036854775807 then (haulierref11_Encode.l0 k t152 t153 (((⟨#[72, 68]⟩ : ByteArray) ++ t156) ++ t158) (⟨#[]⟩ : ByteArray) 0 0) else (none)))) else (none))) = some (r1, r2) := H
      have A7 := Aside0.mk A70
      clear A70
      replace H := Option.bind_eq_some_iff.mp H
      obtain ⟨t156, A80, H⟩ := H
      replace H : (if 2 + t156.size ≤ 9223372036854775807 then ((haulierref08_End.f l0).bind fun t157 => ((haulierref05_Put.f t157).bind fun t158 => (if ((⟨#[72, 68]⟩ : ByteArray) ++ t156).size + t158.size ≤ 9223372036854775807 then (haulierref11_Encode.l0 k t152 t153 (((⟨#[72, 68]⟩ : ByteArray) ++ t156) ++ t158) (⟨#[]⟩ : ByteArray) 0 0) else (none)))) else (none)) = some (r1, r2) := H
      have A8 := Aside0.mk A80
      clear A80
      by_cases c9 : 2 + t156.size ≤ 9223372036854775807
      · rw [if_pos c9] at H
        have c9b0 := eq_true c9
        have c9b1 : decide (2 + t156.size ≤ 9223372036854775807) = true := decide_eq_true c9
        try have c9b2 : (9223372036854775807 < 2 + t156.size) = False := eq_false (Nat.not_lt.2 c9)
        replace H := Option.bind_eq_some_iff.mp H
        obtain ⟨t157, A100, H⟩ := H
        replace H : ((haulierref05_Put.f t157).bind fun t158 => (if ((⟨#[72, 68]⟩ : ByteArray) ++ t156).size + t158.size ≤ 9223372036854775807 then (haulierref11_Encode.l0 k t152 t153 (((⟨#[72, 68]⟩ : ByteArray) ++ t156) ++ t158) (⟨#[]⟩ : ByteArray) 0 0) else (none))) = some (r1, r2) := H
        have A10 := Aside0.mk A100
        clear A100
        replace H := Option.bind_eq_some_iff.mp H
        obtain ⟨t158, A110, H⟩ := H
        replace H : (if ((⟨#[72, 68]⟩ : ByteArray) ++ t156).size + t158.size ≤ 9223372036854775807 then (haulierref11_Encode.l0 k t152 t153 (((⟨#[72, 68]⟩ : ByteArray) ++ t156) ++ t158) (⟨#[]⟩ : ByteArray) 0 0) else (none)) = some (r1, r2) := H
        have A11 := Aside0.mk A110
        clear A110
        by_cases c12 : ((⟨#[72, 68]⟩ : ByteArray) ++ t156).size + t158.size ≤ 9223372036854775807
        · rw [if_pos c12] at H
          have c12b0 := eq_true c12
          have c12b1 : decide (((⟨#[72, 68]⟩ : ByteArray) ++ t156).size + t158.size ≤ 9223372036854775807) = true := decide_eq_true c12
          try have c12b2 : (9223372036854775807 < ((⟨#[72, 68]⟩ : ByteArray) ++ t156).size + t158.size) = False := eq_false (Nat.not_lt.2 c12)
          have H' := Aside0.mk H
          clear H
          go_enter Try.func11, Try.ntmps11
          go_wp2_with (first | (go_at_call 20; (with_reducible refine (haulierref08_Check.calls k _ _ l0 t150 t151 _ ?side1 ?side2 A2.out).mono ?_); (case side1 => repeat (first | exact HR0.out | (with_reducible refine Kd.C_alloc ?_ _) | (with_reducible refine Kd.C_drewN ?_ _) | (with_reducible refine Kd.C_drew ?_))); (case side2 => exact HC0.out); rintro e w13 ⟨rfl, hb⟩; have n0_ := Aside0.mk (below_step (by repeat (first | (with_reducible first | exact HB.out | apply below_alloc | apply pw_below_drewN | apply below_drew1) | exact HB.out)) hb); clear HB; have HB := n0_; clear n0_; (try clear hb); (try clear hb2); (try clear hk); (try clear hi)) | (go_at_call 21; (with_reducible refine (haulierref08_Begin.calls _ _ l0 t152 _ ?side1 ?side2 A6.out).mono ?_); (case side1 => repeat (first | exact (Kd.C_below HR0.out HB.out) | (with_reducible refine Kd.C_alloc ?_ _) | (with_reducible refine Kd.C_drewN ?_ _) | (with_reducible refine Kd.C_drew ?_))); (case side2 => exact HC0.out); rintro e w' ⟨rfl, ⟨nd, rfl⟩⟩; (try first | exact ⟨rfl, _, World.drewN_drewN _ _ _⟩ | exact ⟨rfl, _, Eq.trans (World.drewN_drewN _ _ _) (congrArg (World.drewN _) (Nat.add_assoc _ _ _))⟩)) | (go_at_call 22; (with_reducible refine (haulierref08_Kinds.calls k _ _ l0 t153 _ ?side1 ?side2 A7.out).mono ?_); (case side1 => repeat (first | exact (Kd.C_below HR0.out (by repeat (first | (with_reducible first | exact HB.out | apply below_alloc | apply pw_below_drewN | apply below_drew1) | exact HB.out))) | (with_reducible refine Kd.C_alloc ?_ _) | (with_reducible refine Kd.C_drewN ?_ _) | (with_reducible refine Kd.C_drew ?_))); (case side2 => exact HC0.out); rintro e w14 ⟨v154, rfl, ho0, hb⟩; have n0_ := Aside0.mk (Kd.R_lower ho0 (below_size (by repeat (first | (with_reducible first | exact HB.out | apply below_alloc | apply pw_below_drewN | apply below_drew1) | exact HB.out)))); have n1_ := Aside0.mk (below_step (by repeat (first | (with_reducible first | exact HB.out | apply below_alloc | apply pw_below_drewN | apply below_drew1) | exact HB.out)) hb); clear HB; have HO155 := n0_; have HB := n1_; clear n0_ n1_; (try clear hb); (try clear hb2); (try clear hk); (try clear hi); (try clear ho0)) | (go_at_call 23; (with_reducible refine (haulierref05_Put.calls t152 t156 _ A8.out).mono ?_); rintro e w15 ⟨rfl, hb⟩; have n0_ := Aside0.mk (Kd.R_below (by (with_reducible repeat (first | apply Kd.R_alloc | apply Kd.R_drewN | apply Kd.R_drew)); exact HO155.out) hb); have n1_ := Aside0.mk (below_step (by repeat (first | (with_reducible first | exact HB.out | apply below_alloc | apply pw_below_drewN | apply below_drew1) | exact HB.out)) hb); clear HO155; clear HB; have HO155 := n0_; have HB := n1_; clear n0_ n1_; (try clear hb); (try clear hb2); (try clear hk); (try clear hi)) | (go_at_call 24; (with_reducible refine (haulierref08_End.calls _ _ l0 t157 _ ?side1 ?side2 A10.out).mono ?_); (case side1 => repeat (first | exact (Kd.C_below HR0.out HB.out) | (with_reducible refine Kd.C_alloc ?_ _) | (with_reducible refine Kd.C_drewN ?_ _) | (with_reducible refine Kd.C_drew ?_))); (case side2 => exact HC0.out); rintro e w' ⟨rfl, ⟨nd, rfl⟩⟩; (try first | exact ⟨rfl, _, World.drewN_drewN _ _ _⟩ | exact ⟨rfl, _, Eq.trans (World.drewN_drewN _ _ _) (congrArg (World.drewN _) (Nat.add_assoc _ _ _))⟩)) | (go_at_call 23; (with_reducible refine (haulierref05_Put.calls t157 t158 _ A11.out).mono ?_); rintro e w16 ⟨rfl, hb⟩; have n0_ := Aside0.mk (Kd.R_below (by (with_reducible repeat (first | apply Kd.R_alloc | apply Kd.R_drewN | apply Kd.R_drew)); exact HO155.out) hb); have n1_ := Aside0.mk (below_step (by repeat (first | (with_reducible first | exact HB.out | apply below_alloc | apply pw_below_drewN | apply below_drew1) | exact HB.out)) hb); clear HO155; clear HB; have HO155 := n0_; have HB := n1_; clear n0_ n1_; (try clear hb); (try clear hb2); (try clear hk); (try clear hi)))
          repeat (go_quiet (first | (go_at_call 20; (with_reducible refine (haulierref08_Check.calls k _ _ l0 t150 t151 _ ?side1 ?side2 A2.out).mono ?_); (case side1 => repeat (first | exact HR0.out | (with_reducible refine Kd.C_alloc ?_ _) | (with_reducible refine Kd.C_drewN ?_ _) | (with_reducible refine Kd.C_drew ?_))); (case side2 => exact HC0.out); rintro e w13 ⟨rfl, hb⟩; have n0_ := Aside0.mk (below_step (by repeat (first | (with_reducible first | exact HB.out | apply below_alloc | apply pw_below_drewN | apply below_drew1) | exact HB.out)) hb); clear HB; have HB := n0_; clear n0_; (try clear hb); (try clear hb2); (try clear hk); (try clear hi)) | (go_at_call 21; (with_reducible refine (haulierref08_Begin.calls _ _ l0 t152 _ ?side1 ?side2 A6.out).mono ?_); (case side1 => repeat (first | exact (Kd.C_below HR0.out HB.out) | (with_reducible refine Kd.C_alloc ?_ _) | (with_reducible refine Kd.C_drewN ?_ _) | (with_reducible refine Kd.C_drew ?_))); (case side2 => exact HC0.out); rintro e w' ⟨rfl, ⟨nd, rfl⟩⟩; (try first | exact ⟨rfl, _, World.drewN_drewN _ _ _⟩ | exact ⟨rfl, _, Eq.trans (World.drewN_drewN _ _ _) (congrArg (World.drewN _) (Nat.add_assoc _ _ _))⟩)) | (go_at_call 22; (with_reducible refine (haulierref08_Kinds.calls k _ _ l0 t153 _ ?side1 ?side2 A7.out).mono ?_); (case side1 => repeat (first | exact (Kd.C_below HR0.out (by repeat (first | (with_reducible first | exact HB.out | apply below_alloc | apply pw_below_drewN | apply below_drew1) | exact HB.out))) | (with_reducible refine Kd.C_alloc ?_ _) | (with_reducible refine Kd.C_drewN ?_ _) | (with_reducible refine Kd.C_drew ?_))); (case side2 => exact HC0.out); rintro e w14 ⟨v154, rfl, ho0, hb⟩; have n0_ := Aside0.mk (Kd.R_lower ho0 (below_size (by repeat (first | (with_reducible first | exact HB.out | apply below_alloc | apply pw_below_drewN | apply below_drew1) | exact HB.out)))); have n1_ := Aside0.mk (below_step (by repeat (first | (with_reducible first | exact HB.out | apply below_alloc | apply pw_below_drewN | apply below_drew1) | exact HB.out)) hb); clear HB; have HO155 := n0_; have HB := n1_; clear n0_ n1_; (try clear hb); (try clear hb2); (try clear hk); (try clear hi); (try clear ho0)) | (go_at_call 23; (with_reducible refine (haulierref05_Put.calls t152 t156 _ A8.out).mono ?_); rintro e w15 ⟨rfl, hb⟩; have n0_ := Aside0.mk (Kd.R_below (by (with_reducible repeat (first | apply Kd.R_alloc | apply Kd.R_drewN | apply Kd.R_drew)); exact HO155.out) hb); have n1_ := Aside0.mk (below_step (by repeat (first | (with_reducible first | exact HB.out | apply below_alloc | apply pw_below_drewN | apply below_drew1) | exact HB.out)) hb); clear HO155; clear HB; have HO155 := n0_; have HB := n1_; clear n0_ n1_; (try clear hb); (try clear hb2); (try clear hk); (try clear hi)) | (go_at_call 24; (with_reducible refine (haulierref08_End.calls _ _ l0 t157 _ ?side1 ?side2 A10.out).mono ?_); (case side1 => repeat (first | exact (Kd.C_below HR0.out HB.out) | (with_reducible refine Kd.C_alloc ?_ _) | (with_reducible refine Kd.C_drewN ?_ _) | (with_reducible refine Kd.C_drew ?_))); (case side2 => exact HC0.out); rintro e w' ⟨rfl, ⟨nd, rfl⟩⟩; (try first | exact ⟨rfl, _, World.drewN_drewN _ _ _⟩ | exact ⟨rfl, _, Eq.trans (World.drewN_drewN _ _ _) (congrArg (World.drewN _) (Nat.add_assoc _ _ _))⟩)) | (go_at_call 23; (with_reducible refine (haulierref05_Put.calls t157 t158 _ A11.out).mono ?_); rintro e w16 ⟨rfl, hb⟩; have n0_ := Aside0.mk (Kd.R_below (by (with_reducible repeat (first | apply Kd.R_alloc | apply Kd.R_drewN | apply Kd.R_drew)); exact HO155.out) hb); have n1_ := Aside0.mk (below_step (by repeat (first | (with_reducible first | exact HB.out | apply below_alloc | apply pw_below_drewN | apply below_drew1) | exact HB.out)) hb); clear HO155; clear HB; have HO155 := n0_; have HB := n1_; clear n0_ n1_; (try clear hb); (try clear hb2); (try clear hk); (try clear hi))); try go_wp2_with (first | (go_at_call 20; (with_reducible refine (haulierref08_Check.calls k _ _ l0 t150 t151 _ ?side1 ?side2 A2.out).mono ?_); (case side1 => repeat (first | exact HR0.out | (with_reducible refine Kd.C_alloc ?_ _) | (with_reducible refine Kd.C_drewN ?_ _) | (with_reducible refine Kd.C_drew ?_))); (case side2 => exact HC0.out); rintro e w13 ⟨rfl, hb⟩; have n0_ := Aside0.mk (below_step (by repeat (first | (with_reducible first | exact HB.out | apply below_alloc | apply pw_below_drewN | apply below_drew1) | exact HB.out)) hb); clear HB; have HB := n0_; clear n0_; (try clear hb); (try clear hb2); (try clear hk); (try clear hi)) | (go_at_call 21; (with_reducible refine (haulierref08_Begin.calls _ _ l0 t152 _ ?side1 ?side2 A6.out).mono ?_); (case side1 => repeat (first | exact (Kd.C_below HR0.out HB.out) | (with_reducible refine Kd.C_alloc ?_ _) | (with_reducible refine Kd.C_drewN ?_ _) | (with_reducible refine Kd.C_drew ?_))); (case side2 => exact HC0.out); rintro e w' ⟨rfl, ⟨nd, rfl⟩⟩; (try first | exact ⟨rfl, _, World.drewN_drewN _ _ _⟩ | exact ⟨rfl, _, Eq.trans (World.drewN_drewN _ _ _) (congrArg (World.drewN _) (Nat.add_assoc _ _ _))⟩)) | (go_at_call 22; (with_reducible refine (haulierref08_Kinds.calls k _ _ l0 t153 _ ?side1 ?side2 A7.out).mono ?_); (case side1 => repeat (first | exact (Kd.C_below HR0.out (by repeat (first | (with_reducible first | exact HB.out | apply below_alloc | apply pw_below_drewN | apply below_drew1) | exact HB.out))) | (with_reducible refine Kd.C_alloc ?_ _) | (with_reducible refine Kd.C_drewN ?_ _) | (with_reducible refine Kd.C_drew ?_))); (case side2 => exact HC0.out); rintro e w14 ⟨v154, rfl, ho0, hb⟩; have n0_ := Aside0.mk (Kd.R_lower ho0 (below_size (by repeat (first | (with_reducible first | exact HB.out | apply below_alloc | apply pw_below_drewN | apply below_drew1) | exact HB.out)))); have n1_ := Aside0.mk (below_step (by repeat (first | (with_reducible first | exact HB.out | apply below_alloc | apply pw_below_drewN | apply below_drew1) | exact HB.out)) hb); clear HB; have HO155 := n0_; have HB := n1_; clear n0_ n1_; (try clear hb); (try clear hb2); (try clear hk); (try clear hi); (try clear ho0)) | (go_at_call 23; (with_reducible refine (haulierref05_Put.calls t152 t156 _ A8.out).mono ?_); rintro e w15 ⟨rfl, hb⟩; have n0_ := Aside0.mk (Kd.R_below (by (with_reducible repeat (first | apply Kd.R_alloc | apply Kd.R_drewN | apply Kd.R_drew)); exact HO155.out) hb); have n1_ := Aside0.mk (below_step (by repeat (first | (with_reducible first | exact HB.out | apply below_alloc | apply pw_below_drewN | apply below_drew1) | exact HB.out)) hb); clear HO155; clear HB; have HO155 := n0_; have HB := n1_; clear n0_ n1_; (try clear hb); (try clear hb2); (try clear hk); (try clear hi)) | (go_at_call 24; (with_reducible refine (haulierref08_End.calls _ _ l0 t157 _ ?side1 ?side2 A10.out).mono ?_); (case side1 => repeat (first | exact (Kd.C_below HR0.out HB.out) | (with_reducible refine Kd.C_alloc ?_ _) | (with_reducible refine Kd.C_drewN ?_ _) | (with_reducible refine Kd.C_drew ?_))); (case side2 => exact HC0.out); rintro e w' ⟨rfl, ⟨nd, rfl⟩⟩; (try first | exact ⟨rfl, _, World.drewN_drewN _ _ _⟩ | exact ⟨rfl, _, Eq.trans (World.drewN_drewN _ _ _) (congrArg (World.drewN _) (Nat.add_assoc _ _ _))⟩)) | (go_at_call 23; (with_reducible refine (haulierref05_Put.calls t157 t158 _ A11.out).mono ?_); rintro e w16 ⟨rfl, hb⟩; have n0_ := Aside0.mk (Kd.R_below (by (with_reducible repeat (first | apply Kd.R_alloc | apply Kd.R_drewN | apply Kd.R_drew)); exact HO155.out) hb); have n1_ := Aside0.mk (below_step (by repeat (first | (with_reducible first | exact HB.out | apply below_alloc | apply pw_below_drewN | apply below_drew1) | exact HB.out)) hb); clear HO155; clear HB; have HO155 := n0_; have HB := n1_; clear n0_ n1_; (try clear hb); (try clear hb2); (try clear hk); (try clear hi))))
          go_loopg [8, 9, 10, 11] k (fun kq v8 v9 v10 v11 w' => ∃ (x8_1 : ByteArray) (x9_1 : ByteArray) (x10_1 : Int) (x11_1 : Int), v8 = .string x8_1 ∧ v9 = .string x9_1 ∧ v10 = .int .i64 x10_1 ∧ v11 = .int .i64 x11_1 ∧ Aside0 (haulierref11_Encode.l0 kq t152 t153 x8_1 x9_1 x10_1 x11_1 = some (r1, r2)) ∧ Aside0 (kq ≤ k) ∧ Aside0 (Kd.R (Kd.int .i64) 3 w' w.heap.size (fun _ => True) v154 t153) ∧ Aside0 (Below w.heap.size w w'))
          case atStart => exact ⟨(((⟨#[72, 68]⟩ : ByteArray) ++ t156) ++ t158), ((⟨#[]⟩ : ByteArray)), (0), (0), (by first | rfl | (simp; done) | (simp [*]; done)), (by first | rfl | (simp; done) | (simp [*]; done)), (by first | rfl | (simp; done) | (simp [*]; done)), (by first | rfl | (simp; done) | (simp [*]; done)), H', ⟨Nat.le_refl _⟩, ⟨by (with_reducible repeat (first | apply Kd.R_alloc | apply Kd.R_drewN | apply Kd.R_drew)); exact HO155.out⟩, ⟨by repeat (first | (with_reducible first | exact HB.out | apply below_alloc | apply pw_below_drewN | apply below_drew1) | exact HB.out)⟩⟩
          case round =>
            clear H'
            try clear c1
            try clear p2
            try clear c3
            try clear c3b0
            try clear c3b1
            try clear c4
            try clear c4b0
            try clear c4b1
            try clear c4b2
            try clear c9
            try clear c9b0
            try clear c9b1
            try clear c9b2
            try clear c11
            try clear c12
            try clear c12b0
            try clear c12b1
            try clear c12b2
            obtain ⟨x8_1, x9_1, x10_1, x11_1, rfl, rfl, rfl, rfl, HA, HK1, HO_7, HB⟩ := hrel
            cases gk with
            | zero => exact absurd HA.out (by simp [haulierref11_Encode.l0])
            | succ k1 =>
              have H := HA.out
              clear HA
              simp only [haulierref11_Encode.l0] at H
              by_cases c17 : x11_1 < (t153.length : Int)
              · rw [if_pos c17] at H
                have c17b0 : decide (x11_1 < (t153.length : Int)) = true := decide_eq_true c17
                clear c17
                have HC18 := Aside0.mk H
                clear H
                obtain ⟨Ao19, co19, eo19⟩ := Kd.R_slice HO_7.out
                subst eo19
                go_upto_region 15 with (fail)
                repeat (go_quiet (fail); go_upto_region 15 with (fail))
                go_cut [13] (fun v13 wc => ∃ (kq : Nat) (x13_17 : Bool), v13 = .bool x13_17 ∧ Aside0 (haulierref11_Encode.j1 kq t152 t153 x8_1 x9_1 x10_1 x11_1 (wrap64 (t152 + x11_1)) x13_17 = some (r1, r2)) ∧ Aside0 (kq ≤ k1) ∧ Aside0 (Kd.R (Kd.int .i64) 3 wc w.heap.size (fun _ => True) (.slice Ao19 t153.length co19) t153) ∧ Aside0 (Below w.heap.size w wc))
                case first =>
                  have H := HC18.out
                  clear HC18
                  by_cases c20 : x11_1 = 0
                  · rw [if_pos c20] at H
                    have c20b0 : (x11_1 == 0) = true := beq_iff_eq.mpr c20
                    have c20b1 : (x11_1 != 0) = false := bne_eq_false_iff_eq.mpr c20
                    clear c20
                    (first | rw [c20b0] | (simp only [i64_w, i32_w]; rw [c20b0]) | skip)
                    have H' := Aside0.mk H
                    clear H
                    go_wp2
                    repeat (go_quiet (fail); try go_wp2)
                    go_meet
                    case rel => exact ⟨_, (true), (by first | rfl | (simp; done) | (simp [*]; done)), H', ⟨by have := HK1.out; first | omega | exact Nat.le_refl _⟩, ⟨by (with_reducible repeat (first | apply Kd.R_alloc | apply Kd.R_drewN | apply Kd.R_drew)); exact HO_7.out⟩, ⟨by repeat (first | (with_reducible first | exact HB.out | apply below_alloc | apply pw_below_drewN | apply below_drew1) | exact HB.out)⟩⟩
                  · rw [if_neg c20] at H
                    have c20b0 : (x11_1 == 0) = false := beq_eq_false_iff_ne.mpr c20
                    have c20b1 : (x11_1 != 0) = true := bne_iff_ne.mpr c20
                    (first | rw [c20b0] | (simp only [i64_w, i32_w]; rw [c20b0]) | skip)
                    have H' := Aside0.mk H
                    clear H
                    go_wp2
                    repeat (go_quiet (fail); try go_wp2)
                    go_meet
                    case rel => exact ⟨_, (((Int.tmod (wrap64 (t152 + x11_1)) 1440) == 0)), (by first | rfl | (simp; done) | (simp [*]; done)), H', ⟨by have := HK1.out; first | omega | exact Nat.le_refl _⟩, ⟨by (with_reducible repeat (first | apply Kd.R_alloc | apply Kd.R_drewN | apply Kd.R_drew)); exact HO_7.out⟩, ⟨by repeat (first | (with_reducible first | exact HB.out | apply below_alloc | apply pw_below_drewN | apply below_drew1) | exact HB.out)⟩⟩
                case rest =>
                  clear HC18
                  try clear c1
                  try clear c2
                  try clear p2
                  try clear c3
                  try clear c3b0
                  try clear c3b1
                  try clear c4
                  try clear c4b0
                  try clear c4b1
                  try clear c4b2
                  try clear p6
                  try clear c9
                  try clear c9b0
                  try clear c9b1
                  try clear c9b2
                  try clear c11
                  try clear c12
                  try clear c12b0
                  try clear c12b1
                  try clear c12b2
                  try clear c17
                  try clear c17b0
                  try clear c20
                  try clear c20b0
                  try clear c20b1
                  try clear p2
                  obtain ⟨kq, x13_17, rfl, HA, HJ17, HO_7, HB⟩ := hcut
                  cases kq with
                  | zero => exact absurd HA.out (by simp [haulierref11_Encode.j1])
                  | succ kj17 =>
                    have H := HA.out
                    clear HA
                    simp only [haulierref11_Encode.j1] at H
                    have HC21 := Aside0.mk H
                    clear H
                    go_upto_region 16 with (fail)
                    repeat (go_quiet (fail); go_upto_region 16 with (fail))
                    go_cut [56] (fun v56 wc => ∃ (kq : Nat) (x56_20 : Bool), v56 = .bool x56_20 ∧ Aside0 (haulierref11_Encode.j2 kq t152 t153 x8_1 x9_1 x10_1 x11_1 (wrap64 (t152 + x11_1)) x13_17 x56_20 = some (r1, r2)) ∧ Aside0 (kq ≤ kj17) ∧ Aside0 (Kd.R (Kd.int .i64) 3 wc w.heap.size (fun _ => True) (.slice Ao19 t153.length co19) t153) ∧ Aside0 (Below w.heap.size w wc))
                    case first =>
                      have H := HC21.out
                      clear HC21
                      by_cases c22 : x13_17 = true
                      · subst c22
                        have H1 : (haulierref11_Encode.j2 kj17 t152 t153 x8_1 x9_1 x10_1 x11_1 (wrap64 (t152 + x11_1)) true (decide (x11_1 > 0))) = some (r1, r2) := by rw [if_pos rfl] at H; exact H
                        clear H
                        have H := H1
                        clear H1
                        have H' := Aside0.mk H
                        clear H
                        go_wp2
                        repeat (go_quiet (fail); try go_wp2)
                        go_meet
                        case rel => exact ⟨_, (decide (x11_1 > 0)), (by first | rfl | (simp; done) | (simp [*]; done)), H', ⟨by have := HK1.out; have := HJ17.out; first | omega | exact Nat.le_refl _⟩, ⟨by (with_reducible repeat (first | apply Kd.R_alloc | apply Kd.R_drewN | apply Kd.R_drew)); exact HO_7.out⟩, ⟨by repeat (first | (with_reducible first | exact HB.out | apply below_alloc | apply pw_below_drewN | apply below_drew1) | exact HB.out)⟩⟩
                      · replace c22 := Bool.eq_false_iff.mpr c22
                        subst c22
                        have H1 : (haulierref11_Encode.j2 kj17 t152 t153 x8_1 x9_1 x10_1 x11_1 (wrap64 (t152 + x11_1)) false false) = some (r1, r2) := by rw [if_neg (show ¬ (false = true) by decide)] at H; exact H
                        clear H
                        have H := H1
                        clear H1
                        have H' := Aside0.mk H
                        clear H
                        go_wp2
                        repeat (go_quiet (fail); try go_wp2)
                        go_meet
                        case rel => exact ⟨_, (false), (by first | rfl | (simp; done) | (simp [*]; done)), H', ⟨by have := HK1.out; have := HJ17.out; first | omega | exact Nat.le_refl _⟩, ⟨by (with_reducible repeat (first | apply Kd.R_alloc | apply Kd.R_drewN | apply Kd.R_drew)); exact HO_7.out⟩, ⟨by repeat (first | (with_reducible first | exact HB.out | apply below_alloc | apply pw_below_drewN | apply below_drew1) | exact HB.out)⟩⟩
                    case rest =>
                      clear HC21
                      try clear c1
                      try clear c2
                      try clear p2
                      try clear c3
                      try clear c3b0
                      try clear c3b1
                      try clear c4
                      try clear c4b0
                      try clear c4b1
                      try clear c4b2
                      try clear p6
                      try clear c9
                      try clear c9b0
                      try clear c9b1
                      try clear c9b2
                      try clear c11
                      try clear c12
                      try clear c12b0
                      try clear c12b1
                      try clear c12b2
                      try clear c17
                      try clear c17b0
                      try clear c20
                      try clear c20b0
                      try clear c20b1
                      try clear c22
                      try clear p2
                      try clear p6
                      obtain ⟨kq, x56_20, rfl, HA, HJ20, HO_7, HB⟩ := hcut
                      cases kq with
                      | zero => exact absurd HA.out (by simp [haulierref11_Encode.j2])
                      | succ kj20 =>
                        have H := HA.out
                        clear HA
                        simp only [haulierref11_Encode.j2] at H
                        by_cases c23 : x56_20 = true
                        · subst c23
                          have H1 : ((haulierref05_Put.f x10_1).bind fun t161 => (if x8_1.size + t161.size ≤ 9223372036854775807 then (if (x8_1 ++ t161).size + x9_1.size ≤ 9223372036854775807 then (if x13_17 = true then (if 0 ≤ x11_1 then (if x11_1 < (t153.length : Int) then ((haulierref05_Put.f (wrap64 ((wrap64 (2048 * (rd t153 x11_1))) + (Int.tmod (wrap64 (t152 + x11_1)) 1440)))).bind fun t163 => (if 0 + t163.size ≤ 9223372036854775807 then (haulierref11_Encode.l0 kj20 t152 t153 ((x8_1 ++ t161) ++ x9_1) ((⟨#[]⟩ : ByteArray) ++ t163) (0 + 1) (wrap64 (x11_1 + 1))) else (none))) else (none)) else (none)) else (if 0 ≤ x11_1 then (if x11_1 < (t153.length : Int) then (if 0 ≤ (wrap64 (x11_1 - 1)) then (if (wrap64 (x11_1 - 1)) < (t153.length : Int) then (if (rd t153 x11_1) = (rd t153 (wrap64 (x11_1 - 1))) then (haulierref11_Encode.l0 kj20 t152 t153 ((x8_1 ++ t161) ++ x9_1) (⟨#[]⟩ : ByteArray) 0 (wrap64 (x11_1 + 1))) else ((haulierref05_Put.f (wrap64 ((wrap64 (2048 * (rd t153 x11_1))) + (Int.tmod (wrap64 (t152 + x11_1)) 1440)))).bind fun t167 => (if 0 + t167.size ≤ 9223372036854775807 then (haulierref11_Encode.l0 kj20 t152 t153 ((x8_1 ++ t161) ++ x9_1) ((⟨#[]⟩ : ByteArray) ++ t167) (0 + 1) (wrap64 (x11_1 + 1))) else (none)))) else (none)) else (none)) else (none)) else (none))) else (none)) else (none))) = some (r1, r2) := by rw [if_pos rfl] at H; exact H
                          clear H
                          have H := H1
                          clear H1
                          replace H := Option.bind_eq_some_iff.mp H
                          obtain ⟨t161, A240, H⟩ := H
                          replace H : (if x8_1.size + t161.size ≤ 9223372036854775807 then (if (x8_1 ++ t161).size + x9_1.size ≤ 9223372036854775807 then (if x13_17 = true then (if 0 ≤ x11_1 then (if x11_1 < (t153.length : Int) then ((haulierref05_Put.f (wrap64 ((wrap64 (2048 * (rd t153 x11_1))) + (Int.tmod (wrap64 (t152 + x11_1)) 1440)))).bind fun t163 => (if 0 + t163.size ≤ 9223372036854775807 then (haulierref11_Encode.l0 kj20 t152 t153 ((x8_1 ++ t161) ++ x9_1) ((⟨#[]⟩ : ByteArray) ++ t163) (0 + 1) (wrap64 (x11_1 + 1))) else (none))) else (none)) else (none)) else (if 0 ≤ x11_1 then (if x11_1 < (t153.length : Int) then (if 0 ≤ (wrap64 (x11_1 - 1)) then (if (wrap64 (x11_1 - 1)) < (t153.length : Int) then (if (rd t153 x11_1) = (rd t153 (wrap64 (x11_1 - 1))) then (haulierref11_Encode.l0 kj20 t152 t153 ((x8_1 ++ t161) ++ x9_1) (⟨#[]⟩ : ByteArray) 0 (wrap64 (x11_1 + 1))) else ((haulierref05_Put.f (wrap64 ((wrap64 (2048 * (rd t153 x11_1))) + (Int.tmod (wrap64 (t152 + x11_1)) 1440)))).bind fun t167 => (if 0 + t167.size ≤ 9223372036854775807 then (haulierref11_Encode.l0 kj20 t152 t153 ((x8_1 ++ t161) ++ x9_1) ((⟨#[]⟩ : ByteArray) ++ t167) (0 + 1) (wrap64 (x11_1 + 1))) else (none)))) else (none)) else (none)) else (none)) else (none))) else (none)) else (none)) = some (r1, r2) := H
                          have A24 := Aside0.mk A240
                          clear A240
                          by_cases c25 : x8_1.size + t161.size ≤ 9223372036854775807
                          · rw [if_pos c25] at H
                            have c25b0 := eq_true c25
                            have c25b1 : decide (x8_1.size + t161.size ≤ 9223372036854775807) = true := decide_eq_true c25
                            try have c25b2 : (9223372036854775807 < x8_1.size + t161.size) = False := eq_false (Nat.not_lt.2 c25)
                            by_cases c26 : (x8_1 ++ t161).size + x9_1.size ≤ 9223372036854775807
                            · rw [if_pos c26] at H
                              have c26b0 := eq_true c26
                              have c26b1 : decide ((x8_1 ++ t161).size + x9_1.size ≤ 9223372036854775807) = true := decide_eq_true c26
                              try have c26b2 : (9223372036854775807 < (x8_1 ++ t161).size + x9_1.size) = False := eq_false (Nat.not_lt.2 c26)
                              by_cases c27 : x13_17 = true
                              · subst c27
                                have H1 : (if 0 ≤ x11_1 then (if x11_1 < (t153.length : Int) then ((haulierref05_Put.f (wrap64 ((wrap64 (2048 * (rd t153 x11_1))) + (Int.tmod (wrap64 (t152 + x11_1)) 1440)))).bind fun t163 => (if 0 + t163.size ≤ 9223372036854775807 then (haulierref11_Encode.l0 kj20 t152 t153 ((x8_1 ++ t161) ++ x9_1) ((⟨#[]⟩ : ByteArray) ++ t163) (0 + 1) (wrap64 (x11_1 + 1))) else (none))) else (none)) else (none)) = some (r1, r2) := by rw [if_pos rfl] at H; exact H
                                clear H
                                have H := H1
                                clear H1
                                by_cases c28 : 0 ≤ x11_1
                                · rw [if_pos c28] at H
                                  have c28b0 : decide (0 ≤ x11_1) = true := decide_eq_true c28
                                  clear c28
                                  by_cases c29 : x11_1 < (t153.length : Int)
                                  · rw [if_pos c29] at H
                                    have c29b0 : decide (x11_1 < (t153.length : Int)) = true := decide_eq_true c29
                                    clear c29
                                    replace H := Option.bind_eq_some_iff.mp H
                                    obtain ⟨t163, A300, H⟩ := H
                                    replace H : (if 0 + t163.size ≤ 9223372036854775807 then (haulierref11_Encode.l0 kj20 t152 t153 ((x8_1 ++ t161) ++ x9_1) ((⟨#[]⟩ : ByteArray) ++ t163) (0 + 1) (wrap64 (x11_1 + 1))) else (none)) = some (r1, r2) := H
                                    have A30 := Aside0.mk A300
                                    clear A300
                                    by_cases c31 : 0 + t163.size ≤ 9223372036854775807
                                    · rw [if_pos c31] at H
                                      have c31b0 := eq_true c31
                                      have c31b1 : decide (0 + t163.size ≤ 9223372036854775807) = true := decide_eq_true c31
                                      try have c31b2 : (9223372036854775807 < 0 + t163.size) = False := eq_false (Nat.not_lt.2 c31)
                                      have H' := Aside0.mk H
                                      clear H
                                      go_wp2_with (first | (go_at_call 23; (with_reducible refine (haulierref05_Put.calls x10_1 t161 _ A24.out).mono ?_); rintro e w32 ⟨rfl, hb⟩; have n0_ := Aside0.mk (Kd.R_below (by (with_reducible repeat (first | apply Kd.R_alloc | apply Kd.R_drewN | apply Kd.R_drew)); exact HO_7.out) hb); have n1_ := Aside0.mk (below_step (by repeat (first | (with_reducible first | exact HB.out | apply below_alloc | apply pw_below_drewN | apply below_drew1) | exact HB.out)) hb); clear HO_7; clear HB; have HO_7 := n0_; have HB := n1_; clear n0_ n1_; (try clear hb); (try clear hb2); (try clear hk); (try clear hi); have p162 : 0 ≤ (x11_1 : Int) := of_decide_eq_true (by first | (with_reducible assumption) | assumption); have q162 : x11_1 < (t153.length : Int) := of_decide_eq_true (by first | (with_reducible assumption) | assumption); obtain ⟨ad162, e162, hx162_0⟩ := Kd.at_int (Kd.R_reads' HO_7.out).2.2 x11_1 p162 q162; cases e162; replace p162 := eq_true p162; replace q162 := eq_true q162) | (go_at_call 23; (with_reducible refine (haulierref05_Put.calls (wrap64 ((wrap64 (2048 * (rd t153 x11_1))) + (Int.tmod (wrap64 (t152 + x11_1)) 1440))) t163 _ A30.out).mono ?_); rintro e w33 ⟨rfl, hb⟩; have n0_ := Aside0.mk (Kd.R_below (by (with_reducible repeat (first | apply Kd.R_alloc | apply Kd.R_drewN | apply Kd.R_drew)); exact HO_7.out) hb); have n1_ := Aside0.mk (below_step (by repeat (first | (with_reducible first | exact HB.out | apply below_alloc | apply pw_below_drewN | apply below_drew1) | exact HB.out)) hb); clear HO_7; clear HB; have HO_7 := n0_; have HB := n1_; clear n0_ n1_; (try clear hb); (try clear hb2); (try clear hk); (try clear hi)))
                                      repeat (go_quiet (first | (go_at_call 23; (with_reducible refine (haulierref05_Put.calls x10_1 t161 _ A24.out).mono ?_); rintro e w32 ⟨rfl, hb⟩; have n0_ := Aside0.mk (Kd.R_below (by (with_reducible repeat (first | apply Kd.R_alloc | apply Kd.R_drewN | apply Kd.R_drew)); exact HO_7.out) hb); have n1_ := Aside0.mk (below_step (by repeat (first | (with_reducible first | exact HB.out | apply below_alloc | apply pw_below_drewN | apply below_drew1) | exact HB.out)) hb); clear HO_7; clear HB; have HO_7 := n0_; have HB := n1_; clear n0_ n1_; (try clear hb); (try clear hb2); (try clear hk); (try clear hi); have p162 : 0 ≤ (x11_1 : Int) := of_decide_eq_true (by first | (with_reducible assumption) | assumption); have q162 : x11_1 < (t153.length : Int) := of_decide_eq_true (by first | (with_reducible assumption) | assumption); obtain ⟨ad162, e162, hx162_0⟩ := Kd.at_int (Kd.R_reads' HO_7.out).2.2 x11_1 p162 q162; cases e162; replace p162 := eq_true p162; replace q162 := eq_true q162) | (go_at_call 23; (with_reducible refine (haulierref05_Put.calls (wrap64 ((wrap64 (2048 * (rd t153 x11_1))) + (Int.tmod (wrap64 (t152 + x11_1)) 1440))) t163 _ A30.out).mono ?_); rintro e w33 ⟨rfl, hb⟩; have n0_ := Aside0.mk (Kd.R_below (by (with_reducible repeat (first | apply Kd.R_alloc | apply Kd.R_drewN | apply Kd.R_drew)); exact HO_7.out) hb); have n1_ := Aside0.mk (below_step (by repeat (first | (with_reducible first | exact HB.out | apply below_alloc | apply pw_below_drewN | apply below_drew1) | exact HB.out)) hb); clear HO_7; clear HB; have HO_7 := n0_; have HB := n1_; clear n0_ n1_; (try clear hb); (try clear hb2); (try clear hk); (try clear hi))); try go_wp2_with (first | (go_at_call 23; (with_reducible refine (haulierref05_Put.calls x10_1 t161 _ A24.out).mono ?_); rintro e w32 ⟨rfl, hb⟩; have n0_ := Aside0.mk (Kd.R_below (by (with_reducible repeat (first | apply Kd.R_alloc | apply Kd.R_drewN | apply Kd.R_drew)); exact HO_7.out) hb); have n1_ := Aside0.mk (below_step (by repeat (first | (with_reducible first | exact HB.out | apply below_alloc | apply pw_below_drewN | apply below_drew1) | exact HB.out)) hb); clear HO_7; clear HB; have HO_7 := n0_; have HB := n1_; clear n0_ n1_; (try clear hb); (try clear hb2); (try clear hk); (try clear hi); have p162 : 0 ≤ (x11_1 : Int) := of_decide_eq_true (by first | (with_reducible assumption) | assumption); have q162 : x11_1 < (t153.length : Int) := of_decide_eq_true (by first | (with_reducible assumption) | assumption); obtain ⟨ad162, e162, hx162_0⟩ := Kd.at_int (Kd.R_reads' HO_7.out).2.2 x11_1 p162 q162; cases e162; replace p162 := eq_true p162; replace q162 := eq_true q162) | (go_at_call 23; (with_reducible refine (haulierref05_Put.calls (wrap64 ((wrap64 (2048 * (rd t153 x11_1))) + (Int.tmod (wrap64 (t152 + x11_1)) 1440))) t163 _ A30.out).mono ?_); rintro e w33 ⟨rfl, hb⟩; have n0_ := Aside0.mk (Kd.R_below (by (with_reducible repeat (first | apply Kd.R_alloc | apply Kd.R_drewN | apply Kd.R_drew)); exact HO_7.out) hb); have n1_ := Aside0.mk (below_step (by repeat (first | (with_reducible first | exact HB.out | apply below_alloc | apply pw_below_drewN | apply below_drew1) | exact HB.out)) hb); clear HO_7; clear HB; have HO_7 := n0_; have HB := n1_; clear n0_ n1_; (try clear hb); (try clear hb2); (try clear hk); (try clear hi))))
                                      go_roundg kj20
                                      case measure => have := HK1.out; have := HJ17.out; have := HJ20.out; omega
                                      case rel => exact ⟨((x8_1 ++ t161) ++ x9_1), ((⟨#[]⟩ : ByteArray) ++ t163), (0 + 1), (wrap64 (x11_1 + 1)), (by first | rfl | (simp; done) | (simp [*]; done)), (by first | rfl | (simp; done) | (simp [*]; done)), (by first | rfl | (simp; done) | (simp [*]; done)), (by first | rfl | (simp; done) | (simp [*]; done)), H', ⟨by have := HK1.out; have := HJ17.out; have := HJ20.out; omega⟩, ⟨by (with_reducible repeat (first | apply Kd.R_alloc | apply Kd.R_drewN | apply Kd.R_drew)); exact HO_7.out⟩, ⟨by repeat (first | (with_reducible first | exact HB.out | apply below_alloc | apply pw_below_drewN | apply below_drew1) | exact HB.out)⟩⟩
                                    · rw [if_neg c31] at H
                                      exact absurd H (by simp)
                                  · rw [if_neg c29] at H
                                    exact absurd H (by simp)
                                · rw [if_neg c28] at H
                                  exact absurd H (by simp)
                              · replace c27 := Bool.eq_false_iff.mpr c27
                                subst c27
                                have H1 : (if 0 ≤ x11_1 then (if x11_1 < (t153.length : Int) then (if 0 ≤ (wrap64 (x11_1 - 1)) then (if (wrap64 (x11_1 - 1)) < (t153.length : Int) then (if (rd t153 x11_1) = (rd t153 (wrap64 (x11_1 - 1))) then (haulierref11_Encode.l0 kj20 t152 t153 ((x8_1 ++ t161) ++ x9_1) (⟨#[]⟩ : ByteArray) 0 (wrap64 (x11_1 + 1))) else ((haulierref05_Put.f (wrap64 ((wrap64 (2048 * (rd t153 x11_1))) + (Int.tmod (wrap64 (t152 + x11_1)) 1440)))).bind fun t167 => (if 0 + t167.size ≤ 9223372036854775807 then (haulierref11_Encode.l0 kj20 t152 t153 ((x8_1 ++ t161) ++ x9_1) ((⟨#[]⟩ : ByteArray) ++ t167) (0 + 1) (wrap64 (x11_1 + 1))) else (none)))) else (none)) else (none)) else (none)) else (none)) = some (r1, r2) := by rw [if_neg (show ¬ (false = true) by decide)] at H; exact H
                                clear H
                                have H := H1
                                clear H1
                                by_cases c34 : 0 ≤ x11_1
                                · rw [if_pos c34] at H
                                  have c34b0 : decide (0 ≤ x11_1) = true := decide_eq_true c34
                                  clear c34
                                  by_cases c35 : x11_1 < (t153.length : Int)
                                  · rw [if_pos c35] at H
                                    have c35b0 : decide (x11_1 < (t153.length : Int)) = true := decide_eq_true c35
                                    clear c35
                                    obtain ⟨ji36, hji36⟩ : ∃ j_ : Int, (wrap64 (x11_1 - 1)) = j_ := ⟨_, rfl⟩
                                    replace H : (if 0 ≤ (ji36) then (if (ji36) < (t153.length : Int) then (if (rd t153 x11_1) = (rd t153 (ji36)) then (haulierref11_Encode.l0 kj20 t152 t153 ((x8_1 ++ t161) ++ x9_1) (⟨#[]⟩ : ByteArray) 0 (wrap64 (x11_1 + 1))) else ((haulierref05_Put.f (wrap64 ((wrap64 (2048 * (rd t153 x11_1))) + (Int.tmod (wrap64 (t152 + x11_1)) 1440)))).bind fun t167 => (if 0 + t167.size ≤ 9223372036854775807 then (haulierref11_Encode.l0 kj20 t152 t153 ((x8_1 ++ t161) ++ x9_1) ((⟨#[]⟩ : ByteArray) ++ t167) (0 + 1) (wrap64 (x11_1 + 1))) else (none)))) else (none)) else (none)) = some (r1, r2) := by first | (rw [hji36] at H; exact H) | (simp only [hji36] at H ⊢; exact H)
                                    (try rw [hji36] at A24)
                                    have hji36w : (IntKind.i64.wrap (x11_1 - 1)) = ji36 := (i64_w _).trans hji36
                                    by_cases c37 : 0 ≤ (ji36)
                                    · rw [if_pos c37] at H
                                      have c37b0 : decide (0 ≤ (ji36)) = true := decide_eq_true c37
                                      clear c37
                                      by_cases c38 : (ji36) < (t153.length : Int)
                                      · rw [if_pos c38] at H
                                        have c38b0 : decide ((ji36) < (t153.length : Int)) = true := decide_eq_true c38
                                        clear c38
                                        by_cases c39 : (rd t153 x11_1) = (rd t153 (ji36))
                                        · rw [if_pos c39] at H
                                          have c39b0 : ((rd t153 x11_1) == (rd t153 (ji36))) = true := beq_iff_eq.mpr c39
                                          have c39b1 : ((rd t153 x11_1) != (rd t153 (ji36))) = false := bne_eq_false_iff_eq.mpr c39
                                          clear c39
                                          have H' := Aside0.mk H
                                          clear H
                                          go_wp2_with (first | (go_at_call 23; (with_reducible refine (haulierref05_Put.calls x10_1 t161 _ A24.out).mono ?_); rintro e w40 ⟨rfl, hb⟩; have n0_ := Aside0.mk (Kd.R_below (by (with_reducible repeat (first | apply Kd.R_alloc | apply Kd.R_drewN | apply Kd.R_drew)); exact HO_7.out) hb); have n1_ := Aside0.mk (below_step (by repeat (first | (with_reducible first | exact HB.out | apply below_alloc | apply pw_below_drewN | apply below_drew1) | exact HB.out)) hb); clear HO_7; clear HB; have HO_7 := n0_; have HB := n1_; clear n0_ n1_; (try clear hb); (try clear hb2); (try clear hk); (try clear hi); have p164 : 0 ≤ (x11_1 : Int) := of_decide_eq_true (by first | (with_reducible assumption) | assumption); have q164 : x11_1 < (t153.length : Int) := of_decide_eq_true (by first | (with_reducible assumption) | assumption); obtain ⟨ad164, e164, hx164_0⟩ := Kd.at_int (Kd.R_reads' HO_7.out).2.2 x11_1 p164 q164; cases e164; replace p164 := eq_true p164; replace q164 := eq_true q164; have p165 : 0 ≤ ((ji36) : Int) := of_decide_eq_true (by first | (with_reducible assumption) | assumption); have q165 : (ji36) < (t153.length : Int) := of_decide_eq_true (by first | (with_reducible assumption) | assumption); obtain ⟨ad165, e165, hx165_0⟩ := Kd.at_int (Kd.R_reads' HO_7.out).2.2 (ji36) p165 q165; obtain rfl : ad164 = ad165 := (by injection e165); replace p165 := eq_true p165; replace q165 := eq_true q165))
                                          repeat (go_quiet (first | (go_at_call 23; (with_reducible refine (haulierref05_Put.calls x10_1 t161 _ A24.out).mono ?_); rintro e w40 ⟨rfl, hb⟩; have n0_ := Aside0.mk (Kd.R_below (by (with_reducible repeat (first | apply Kd.R_alloc | apply Kd.R_drewN | apply Kd.R_drew)); exact HO_7.out) hb); have n1_ := Aside0.mk (below_step (by repeat (first | (with_reducible first | exact HB.out | apply below_alloc | apply pw_below_drewN | apply below_drew1) | exact HB.out)) hb); clear HO_7; clear HB; have HO_7 := n0_; have HB := n1_; clear n0_ n1_; (try clear hb); (try clear hb2); (try clear hk); (try clear hi); have p164 : 0 ≤ (x11_1 : Int) := of_decide_eq_true (by first | (with_reducible assumption) | assumption); have q164 : x11_1 < (t153.length : Int) := of_decide_eq_true (by first | (with_reducible assumption) | assumption); obtain ⟨ad164, e164, hx164_0⟩ := Kd.at_int (Kd.R_reads' HO_7.out).2.2 x11_1 p164 q164; cases e164; replace p164 := eq_true p164; replace q164 := eq_true q164; have p165 : 0 ≤ ((ji36) : Int) := of_decide_eq_true (by first | (with_reducible assumption) | assumption); have q165 : (ji36) < (t153.length : Int) := of_decide_eq_true (by first | (with_reducible assumption) | assumption); obtain ⟨ad165, e165, hx165_0⟩ := Kd.at_int (Kd.R_reads' HO_7.out).2.2 (ji36) p165 q165; obtain rfl : ad164 = ad165 := (by injection e165); replace p165 := eq_true p165; replace q165 := eq_true q165)); try go_wp2_with (first | (go_at_call 23; (with_reducible refine (haulierref05_Put.calls x10_1 t161 _ A24.out).mono ?_); rintro e w40 ⟨rfl, hb⟩; have n0_ := Aside0.mk (Kd.R_below (by (with_reducible repeat (first | apply Kd.R_alloc | apply Kd.R_drewN | apply Kd.R_drew)); exact HO_7.out) hb); have n1_ := Aside0.mk (below_step (by repeat (first | (with_reducible first | exact HB.out | apply below_alloc | apply pw_below_drewN | apply below_drew1) | exact HB.out)) hb); clear HO_7; clear HB; have HO_7 := n0_; have HB := n1_; clear n0_ n1_; (try clear hb); (try clear hb2); (try clear hk); (try clear hi); have p164 : 0 ≤ (x11_1 : Int) := of_decide_eq_true (by first | (with_reducible assumption) | assumption); have q164 : x11_1 < (t153.length : Int) := of_decide_eq_true (by first | (with_reducible assumption) | assumption); obtain ⟨ad164, e164, hx164_0⟩ := Kd.at_int (Kd.R_reads' HO_7.out).2.2 x11_1 p164 q164; cases e164; replace p164 := eq_true p164; replace q164 := eq_true q164; have p165 : 0 ≤ ((ji36) : Int) := of_decide_eq_true (by first | (with_reducible assumption) | assumption); have q165 : (ji36) < (t153.length : Int) := of_decide_eq_true (by first | (with_reducible assumption) | assumption); obtain ⟨ad165, e165, hx165_0⟩ := Kd.at_int (Kd.R_reads' HO_7.out).2.2 (ji36) p165 q165; obtain rfl : ad164 = ad165 := (by injection e165); replace p165 := eq_true p165; replace q165 := eq_true q165)))
                                          go_roundg kj20
                                          case measure => have := HK1.out; have := HJ17.out; have := HJ20.out; omega
                                          case rel => exact ⟨((x8_1 ++ t161) ++ x9_1), ((⟨#[]⟩ : ByteArray)), (0), (wrap64 (x11_1 + 1)), (by first | rfl | (simp; done) | (simp [*]; done)), (by first | rfl | (simp; done) | (simp [*]; done)), (by first | rfl | (simp; done) | (simp [*]; done)), (by first | rfl | (simp; done) | (simp [*]; done)), H', ⟨by have := HK1.out; have := HJ17.out; have := HJ20.out; omega⟩, ⟨by (with_reducible repeat (first | apply Kd.R_alloc | apply Kd.R_drewN | apply Kd.R_drew)); exact HO_7.out⟩, ⟨by repeat (first | (with_reducible first | exact HB.out | apply below_alloc | apply pw_below_drewN | apply below_drew1) | exact HB.out)⟩⟩
                                        · rw [if_neg c39] at H
                                          have c39b0 : ((rd t153 x11_1) == (rd t153 (ji36))) = false := beq_eq_false_iff_ne.mpr c39
                                          have c39b1 : ((rd t153 x11_1) != (rd t153 (ji36))) = true := bne_iff_ne.mpr c39
                                          replace H := Option.bind_eq_some_iff.mp H
                                          obtain ⟨t167, A410, H⟩ := H
                                          replace H : (if 0 + t167.size ≤ 9223372036854775807 then (haulierref11_Encode.l0 kj20 t152 t153 ((x8_1 ++ t161) ++ x9_1) ((⟨#[]⟩ : ByteArray) ++ t167) (0 + 1) (wrap64 (x11_1 + 1))) else (none)) = some (r1, r2) := H
                                          have A41 := Aside0.mk A410
                                          clear A410
                                          by_cases c42 : 0 + t167.size ≤ 9223372036854775807
                                          · rw [if_pos c42] at H
                                            have c42b0 := eq_true c42
                                            have c42b1 : decide (0 + t167.size ≤ 9223372036854775807) = true := decide_eq_true c42
                                            try have c42b2 : (9223372036854775807 < 0 + t167.size) = False := eq_false (Nat.not_lt.2 c42)
                                            have H' := Aside0.mk H
                                            clear H
                                            go_wp2_with (first | (go_at_call 23; (with_reducible refine (haulierref05_Put.calls x10_1 t161 _ A24.out).mono ?_); rintro e w43 ⟨rfl, hb⟩; have n0_ := Aside0.mk (Kd.R_below (by (with_reducible repeat (first | apply Kd.R_alloc | apply Kd.R_drewN | apply Kd.R_drew)); exact HO_7.out) hb); have n1_ := Aside0.mk (below_step (by repeat (first | (with_reducible first | exact HB.out | apply below_alloc | apply pw_below_drewN | apply below_drew1) | exact HB.out)) hb); clear HO_7; clear HB; have HO_7 := n0_; have HB := n1_; clear n0_ n1_; (try clear hb); (try clear hb2); (try clear hk); (try clear hi); have p164 : 0 ≤ (x11_1 : Int) := of_decide_eq_true (by first | (with_reducible assumption) | assumption); have q164 : x11_1 < (t153.length : Int) := of_decide_eq_true (by first | (with_reducible assumption) | assumption); obtain ⟨ad164, e164, hx164_0⟩ := Kd.at_int (Kd.R_reads' HO_7.out).2.2 x11_1 p164 q164; cases e164; replace p164 := eq_true p164; replace q164 := eq_true q164; have p165 : 0 ≤ ((ji36) : Int) := of_decide_eq_true (by first | (with_reducible assumption) | assumption); have q165 : (ji36) < (t153.length : Int) := of_decide_eq_true (by first | (with_reducible assumption) | assumption); obtain ⟨ad165, e165, hx165_0⟩ := Kd.at_int (Kd.R_reads' HO_7.out).2.2 (ji36) p165 q165; obtain rfl : ad164 = ad165 := (by injection e165); replace p165 := eq_true p165; replace q165 := eq_true q165; have p166 : 0 ≤ (x11_1 : Int) := of_decide_eq_true (by first | (with_reducible assumption) | assumption); have q166 : x11_1 < (t153.length : Int) := of_decide_eq_true (by first | (with_reducible assumption) | assumption); obtain ⟨ad166, e166, hx166_0⟩ := Kd.at_int (Kd.R_reads' HO_7.out).2.2 x11_1 p166 q166; obtain rfl : ad164 = ad166 := (by injection e166); replace p166 := eq_true p166; replace q166 := eq_true q166) | (go_at_call 23; (with_reducible refine (haulierref05_Put.calls (wrap64 ((wrap64 (2048 * (rd t153 x11_1))) + (Int.tmod (wrap64 (t152 + x11_1)) 1440))) t167 _ A41.out).mono ?_); rintro e w44 ⟨rfl, hb⟩; have n0_ := Aside0.mk (Kd.R_below (by (with_reducible repeat (first | apply Kd.R_alloc | apply Kd.R_drewN | apply Kd.R_drew)); exact HO_7.out) hb); have n1_ := Aside0.mk (below_step (by repeat (first | (with_reducible first | exact HB.out | apply below_alloc | apply pw_below_drewN | apply below_drew1) | exact HB.out)) hb); clear HO_7; clear HB; have HO_7 := n0_; have HB := n1_; clear n0_ n1_; (try clear hb); (try clear hb2); (try clear hk); (try clear hi)))
                                            repeat (go_quiet (first | (go_at_call 23; (with_reducible refine (haulierref05_Put.calls x10_1 t161 _ A24.out).mono ?_); rintro e w43 ⟨rfl, hb⟩; have n0_ := Aside0.mk (Kd.R_below (by (with_reducible repeat (first | apply Kd.R_alloc | apply Kd.R_drewN | apply Kd.R_drew)); exact HO_7.out) hb); have n1_ := Aside0.mk (below_step (by repeat (first | (with_reducible first | exact HB.out | apply below_alloc | apply pw_below_drewN | apply below_drew1) | exact HB.out)) hb); clear HO_7; clear HB; have HO_7 := n0_; have HB := n1_; clear n0_ n1_; (try clear hb); (try clear hb2); (try clear hk); (try clear hi); have p164 : 0 ≤ (x11_1 : Int) := of_decide_eq_true (by first | (with_reducible assumption) | assumption); have q164 : x11_1 < (t153.length : Int) := of_decide_eq_true (by first | (with_reducible assumption) | assumption); obtain ⟨ad164, e164, hx164_0⟩ := Kd.at_int (Kd.R_reads' HO_7.out).2.2 x11_1 p164 q164; cases e164; replace p164 := eq_true p164; replace q164 := eq_true q164; have p165 : 0 ≤ ((ji36) : Int) := of_decide_eq_true (by first | (with_reducible assumption) | assumption); have q165 : (ji36) < (t153.length : Int) := of_decide_eq_true (by first | (with_reducible assumption) | assumption); obtain ⟨ad165, e165, hx165_0⟩ := Kd.at_int (Kd.R_reads' HO_7.out).2.2 (ji36) p165 q165; obtain rfl : ad164 = ad165 := (by injection e165); replace p165 := eq_true p165; replace q165 := eq_true q165; have p166 : 0 ≤ (x11_1 : Int) := of_decide_eq_true (by first | (with_reducible assumption) | assumption); have q166 : x11_1 < (t153.length : Int) := of_decide_eq_true (by first | (with_reducible assumption) | assumption); obtain ⟨ad166, e166, hx166_0⟩ := Kd.at_int (Kd.R_reads' HO_7.out).2.2 x11_1 p166 q166; obtain rfl : ad164 = ad166 := (by injection e166); replace p166 := eq_true p166; replace q166 := eq_true q166) | (go_at_call 23; (with_reducible refine (haulierref05_Put.calls (wrap64 ((wrap64 (2048 * (rd t153 x11_1))) + (Int.tmod (wrap64 (t152 + x11_1)) 1440))) t167 _ A41.out).mono ?_); rintro e w44 ⟨rfl, hb⟩; have n0_ := Aside0.mk (Kd.R_below (by (with_reducible repeat (first | apply Kd.R_alloc | apply Kd.R_drewN | apply Kd.R_drew)); exact HO_7.out) hb); have n1_ := Aside0.mk (below_step (by repeat (first | (with_reducible first | exact HB.out | apply below_alloc | apply pw_below_drewN | apply below_drew1) | exact HB.out)) hb); clear HO_7; clear HB; have HO_7 := n0_; have HB := n1_; clear n0_ n1_; (try clear hb); (try clear hb2); (try clear hk); (try clear hi))); try go_wp2_with (first | (go_at_call 23; (with_reducible refine (haulierref05_Put.calls x10_1 t161 _ A24.out).mono ?_); rintro e w43 ⟨rfl, hb⟩; have n0_ := Aside0.mk (Kd.R_below (by (with_reducible repeat (first | apply Kd.R_alloc | apply Kd.R_drewN | apply Kd.R_drew)); exact HO_7.out) hb); have n1_ := Aside0.mk (below_step (by repeat (first | (with_reducible first | exact HB.out | apply below_alloc | apply pw_below_drewN | apply below_drew1) | exact HB.out)) hb); clear HO_7; clear HB; have HO_7 := n0_; have HB := n1_; clear n0_ n1_; (try clear hb); (try clear hb2); (try clear hk); (try clear hi); have p164 : 0 ≤ (x11_1 : Int) := of_decide_eq_true (by first | (with_reducible assumption) | assumption); have q164 : x11_1 < (t153.length : Int) := of_decide_eq_true (by first | (with_reducible assumption) | assumption); obtain ⟨ad164, e164, hx164_0⟩ := Kd.at_int (Kd.R_reads' HO_7.out).2.2 x11_1 p164 q164; cases e164; replace p164 := eq_true p164; replace q164 := eq_true q164; have p165 : 0 ≤ ((ji36) : Int) := of_decide_eq_true (by first | (with_reducible assumption) | assumption); have q165 : (ji36) < (t153.length : Int) := of_decide_eq_true (by first | (with_reducible assumption) | assumption); obtain ⟨ad165, e165, hx165_0⟩ := Kd.at_int (Kd.R_reads' HO_7.out).2.2 (ji36) p165 q165; obtain rfl : ad164 = ad165 := (by injection e165); replace p165 := eq_true p165; replace q165 := eq_true q165; have p166 : 0 ≤ (x11_1 : Int) := of_decide_eq_true (by first | (with_reducible assumption) | assumption); have q166 : x11_1 < (t153.length : Int) := of_decide_eq_true (by first | (with_reducible assumption) | assumption); obtain ⟨ad166, e166, hx166_0⟩ := Kd.at_int (Kd.R_reads' HO_7.out).2.2 x11_1 p166 q166; obtain rfl : ad164 = ad166 := (by injection e166); replace p166 := eq_true p166; replace q166 := eq_true q166) | (go_at_call 23; (with_reducible refine (haulierref05_Put.calls (wrap64 ((wrap64 (2048 * (rd t153 x11_1))) + (Int.tmod (wrap64 (t152 + x11_1)) 1440))) t167 _ A41.out).mono ?_); rintro e w44 ⟨rfl, hb⟩; have n0_ := Aside0.mk (Kd.R_below (by (with_reducible repeat (first | apply Kd.R_alloc | apply Kd.R_drewN | apply Kd.R_drew)); exact HO_7.out) hb); have n1_ := Aside0.mk (below_step (by repeat (first | (with_reducible first | exact HB.out | apply below_alloc | apply pw_below_drewN | apply below_drew1) | exact HB.out)) hb); clear HO_7; clear HB; have HO_7 := n0_; have HB := n1_; clear n0_ n1_; (try clear hb); (try clear hb2); (try clear hk); (try clear hi))))
                                            go_roundg kj20
                                            case measure => have := HK1.out; have := HJ17.out; have := HJ20.out; omega
                                            case rel => exact ⟨((x8_1 ++ t161) ++ x9_1), ((⟨#[]⟩ : ByteArray) ++ t167), (0 + 1), (wrap64 (x11_1 + 1)), (by first | rfl | (simp; done) | (simp [*]; done)), (by first | rfl | (simp; done) | (simp [*]; done)), (by first | rfl | (simp; done) | (simp [*]; done)), (by first | rfl | (simp; done) | (simp [*]; done)), H', ⟨by have := HK1.out; have := HJ17.out; have := HJ20.out; omega⟩, ⟨by (with_reducible repeat (first | apply Kd.R_alloc | apply Kd.R_drewN | apply Kd.R_drew)); exact HO_7.out⟩, ⟨by repeat (first | (with_reducible first | exact HB.out | apply below_alloc | apply pw_below_drewN | apply below_drew1) | exact HB.out)⟩⟩
                                          · rw [if_neg c42] at H
                                            exact absurd H (by simp)
                                      · rw [if_neg c38] at H
                                        exact absurd H (by simp)
                                    · rw [if_neg c37] at H
                                      exact absurd H (by simp)
                                  · rw [if_neg c35] at H
                                    exact absurd H (by simp)
                                · rw [if_neg c34] at H
                                  exact absurd H (by simp)
                            · rw [if_neg c26] at H
                              exact absurd H (by simp)
                          · rw [if_neg c25] at H
                            exact absurd H (by simp)
                        · replace c23 := Bool.eq_false_iff.mpr c23
                          subst c23
                          have H1 : (if x13_17 = true then (if 0 ≤ x11_1 then (if x11_1 < (t153.length : Int) then ((haulierref05_Put.f (wrap64 ((wrap64 (2048 * (rd t153 x11_1))) + (Int.tmod (wrap64 (t152 + x11_1)) 1440)))).bind fun t169 => (if x9_1.size + t169.size ≤ 9223372036854775807 then (haulierref11_Encode.l0 kj20 t152 t153 x8_1 (x9_1 ++ t169) (wrap64 (x10_1 + 1)) (wrap64 (x11_1 + 1))) else (none))) else (none)) else (none)) else (if 0 ≤ x11_1 then (if x11_1 < (t153.length : Int) then (if 0 ≤ (wrap64 (x11_1 - 1)) then (if (wrap64 (x11_1 - 1)) < (t153.length : Int) then (if (rd t153 x11_1) = (rd t153 (wrap64 (x11_1 - 1))) then (haulierref11_Encode.l0 kj20 t152 t153 x8_1 x9_1 x10_1 (wrap64 (x11_1 + 1))) else ((haulierref05_Put.f (wrap64 ((wrap64 (2048 * (rd t153 x11_1))) + (Int.tmod (wrap64 (t152 + x11_1)) 1440)))).bind fun t173 => (if x9_1.size + t173.size ≤ 9223372036854775807 then (haulierref11_Encode.l0 kj20 t152 t153 x8_1 (x9_1 ++ t173) (wrap64 (x10_1 + 1)) (wrap64 (x11_1 + 1))) else (none)))) else (none)) else (none)) else (none)) else (none))) = some (r1, r2) := by rw [if_neg (show ¬ (false = true) by decide)] at H; exact H
                          clear H
                          have H := H1
                          clear H1
                          by_cases c45 : x13_17 = true
                          · subst c45
                            have H1 : (if 0 ≤ x11_1 then (if x11_1 < (t153.length : Int) then ((haulierref05_Put.f (wrap64 ((wrap64 (2048 * (rd t153 x11_1))) + (Int.tmod (wrap64 (t152 + x11_1)) 1440)))).bind fun t169 => (if x9_1.size + t169.size ≤ 9223372036854775807 then (haulierref11_Encode.l0 kj20 t152 t153 x8_1 (x9_1 ++ t169) (wrap64 (x10_1 + 1)) (wrap64 (x11_1 + 1))) else (none))) else (none)) else (none)) = some (r1, r2) := by rw [if_pos rfl] at H; exact H
                            clear H
                            have H := H1
                            clear H1
                            by_cases c46 : 0 ≤ x11_1
                            · rw [if_pos c46] at H
                              have c46b0 : decide (0 ≤ x11_1) = true := decide_eq_true c46
                              clear c46
                              by_cases c47 : x11_1 < (t153.length : Int)
                              · rw [if_pos c47] at H
                                have c47b0 : decide (x11_1 < (t153.length : Int)) = true := decide_eq_true c47
                                clear c47
                                replace H := Option.bind_eq_some_iff.mp H
                                obtain ⟨t169, A480, H⟩ := H
                                replace H : (if x9_1.size + t169.size ≤ 9223372036854775807 then (haulierref11_Encode.l0 kj20 t152 t153 x8_1 (x9_1 ++ t169) (wrap64 (x10_1 + 1)) (wrap64 (x11_1 + 1))) else (none)) = some (r1, r2) := H
                                have A48 := Aside0.mk A480
                                clear A480
                                by_cases c49 : x9_1.size + t169.size ≤ 9223372036854775807
                                · rw [if_pos c49] at H
                                  have c49b0 := eq_true c49
                                  have c49b1 : decide (x9_1.size + t169.size ≤ 9223372036854775807) = true := decide_eq_true c49
                                  try have c49b2 : (9223372036854775807 < x9_1.size + t169.size) = False := eq_false (Nat.not_lt.2 c49)
                                  have H' := Aside0.mk H
                                  clear H
                                  have p168 : 0 ≤ (x11_1 : Int) := of_decide_eq_true (by first | (with_reducible assumption) | assumption)
                                  have q168 : x11_1 < (t153.length : Int) := of_decide_eq_true (by first | (with_reducible assumption) | assumption)
                                  obtain ⟨ad168, e168, hx168_0⟩ := Kd.at_int (Kd.R_reads' HO_7.out).2.2 x11_1 p168 q168
                                  cases e168
                                  replace p168 := eq_true p168
                                  replace q168 := eq_true q168
                                  go_wp2_with (first | (go_at_call 23; (with_reducible refine (haulierref05_Put.calls (wrap64 ((wrap64 (2048 * (rd t153 x11_1))) + (Int.tmod (wrap64 (t152 + x11_1)) 1440))) t169 _ A48.out).mono ?_); rintro e w50 ⟨rfl, hb⟩; have n0_ := Aside0.mk (Kd.R_below (by (with_reducible repeat (first | apply Kd.R_alloc | apply Kd.R_drewN | apply Kd.R_drew)); exact HO_7.out) hb); have n1_ := Aside0.mk (below_step (by repeat (first | (with_reducible first | exact HB.out | apply below_alloc | apply pw_below_drewN | apply below_drew1) | exact HB.out)) hb); clear HO_7; clear HB; have HO_7 := n0_; have HB := n1_; clear n0_ n1_; (try clear hb); (try clear hb2); (try clear hk); (try clear hi)))
                                  repeat (go_quiet (first | (go_at_call 23; (with_reducible refine (haulierref05_Put.calls (wrap64 ((wrap64 (2048 * (rd t153 x11_1))) + (Int.tmod (wrap64 (t152 + x11_1)) 1440))) t169 _ A48.out).mono ?_); rintro e w50 ⟨rfl, hb⟩; have n0_ := Aside0.mk (Kd.R_below (by (with_reducible repeat (first | apply Kd.R_alloc | apply Kd.R_drewN | apply Kd.R_drew)); exact HO_7.out) hb); have n1_ := Aside0.mk (below_step (by repeat (first | (with_reducible first | exact HB.out | apply below_alloc | apply pw_below_drewN | apply below_drew1) | exact HB.out)) hb); clear HO_7; clear HB; have HO_7 := n0_; have HB := n1_; clear n0_ n1_; (try clear hb); (try clear hb2); (try clear hk); (try clear hi))); try go_wp2_with (first | (go_at_call 23; (with_reducible refine (haulierref05_Put.calls (wrap64 ((wrap64 (2048 * (rd t153 x11_1))) + (Int.tmod (wrap64 (t152 + x11_1)) 1440))) t169 _ A48.out).mono ?_); rintro e w50 ⟨rfl, hb⟩; have n0_ := Aside0.mk (Kd.R_below (by (with_reducible repeat (first | apply Kd.R_alloc | apply Kd.R_drewN | apply Kd.R_drew)); exact HO_7.out) hb); have n1_ := Aside0.mk (below_step (by repeat (first | (with_reducible first | exact HB.out | apply below_alloc | apply pw_below_drewN | apply below_drew1) | exact HB.out)) hb); clear HO_7; clear HB; have HO_7 := n0_; have HB := n1_; clear n0_ n1_; (try clear hb); (try clear hb2); (try clear hk); (try clear hi))))
                                  go_roundg kj20
                                  case measure => have := HK1.out; have := HJ17.out; have := HJ20.out; omega
                                  case rel => exact ⟨(x8_1), (x9_1 ++ t169), (wrap64 (x10_1 + 1)), (wrap64 (x11_1 + 1)), (by first | rfl | (simp; done) | (simp [*]; done)), (by first | rfl | (simp; done) | (simp [*]; done)), (by first | rfl | (simp; done) | (simp [*]; done)), (by first | rfl | (simp; done) | (simp [*]; done)), H', ⟨by have := HK1.out; have := HJ17.out; have := HJ20.out; omega⟩, ⟨by (with_reducible repeat (first | apply Kd.R_alloc | apply Kd.R_drewN | apply Kd.R_drew)); exact HO_7.out⟩, ⟨by repeat (first | (with_reducible first | exact HB.out | apply below_alloc | apply pw_below_drewN | apply below_drew1) | exact HB.out)⟩⟩
                                · rw [if_neg c49] at H
                                  exact absurd H (by simp)
                              · rw [if_neg c47] at H
                                exact absurd H (by simp)
                            · rw [if_neg c46] at H
                              exact absurd H (by simp)
                          · replace c45 := Bool.eq_false_iff.mpr c45
                            subst c45
                            have H1 : (if 0 ≤ x11_1 then (if x11_1 < (t153.length : Int) then (if 0 ≤ (wrap64 (x11_1 - 1)) then (if (wrap64 (x11_1 - 1)) < (t153.length : Int) then (if (rd t153 x11_1) = (rd t153 (wrap64 (x11_1 - 1))) then (haulierref11_Encode.l0 kj20 t152 t153 x8_1 x9_1 x10_1 (wrap64 (x11_1 + 1))) else ((haulierref05_Put.f (wrap64 ((wrap64 (2048 * (rd t153 x11_1))) + (Int.tmod (wrap64 (t152 + x11_1)) 1440)))).bind fun t173 => (if x9_1.size + t173.size ≤ 9223372036854775807 then (haulierref11_Encode.l0 kj20 t152 t153 x8_1 (x9_1 ++ t173) (wrap64 (x10_1 + 1)) (wrap64 (x11_1 + 1))) else (none)))) else (none)) else (none)) else (none)) else (none)) = some (r1, r2) := by rw [if_neg (show ¬ (false = true) by decide)] at H; exact H
                            clear H
                            have H := H1
                            clear H1
                            by_cases c51 : 0 ≤ x11_1
                            · rw [if_pos c51] at H
                              have c51b0 : decide (0 ≤ x11_1) = true := decide_eq_true c51
                              clear c51
                              by_cases c52 : x11_1 < (t153.length : Int)
                              · rw [if_pos c52] at H
                                have c52b0 : decide (x11_1 < (t153.length : Int)) = true := decide_eq_true c52
                                clear c52
                                obtain ⟨ji53, hji53⟩ : ∃ j_ : Int, (wrap64 (x11_1 - 1)) = j_ := ⟨_, rfl⟩
                                replace H : (if 0 ≤ (ji53) then (if (ji53) < (t153.length : Int) then (if (rd t153 x11_1) = (rd t153 (ji53)) then (haulierref11_Encode.l0 kj20 t152 t153 x8_1 x9_1 x10_1 (wrap64 (x11_1 + 1))) else ((haulierref05_Put.f (wrap64 ((wrap64 (2048 * (rd t153 x11_1))) + (Int.tmod (wrap64 (t152 + x11_1)) 1440)))).bind fun t173 => (if x9_1.size + t173.size ≤ 9223372036854775807 then (haulierref11_Encode.l0 kj20 t152 t153 x8_1 (x9_1 ++ t173) (wrap64 (x10_1 + 1)) (wrap64 (x11_1 + 1))) else (none)))) else (none)) else (none)) = some (r1, r2) := by first | (rw [hji53] at H; exact H) | (simp only [hji53] at H ⊢; exact H)
                                have hji53w : (IntKind.i64.wrap (x11_1 - 1)) = ji53 := (i64_w _).trans hji53
                                by_cases c54 : 0 ≤ (ji53)
                                · rw [if_pos c54] at H
                                  have c54b0 : decide (0 ≤ (ji53)) = true := decide_eq_true c54
                                  clear c54
                                  by_cases c55 : (ji53) < (t153.length : Int)
                                  · rw [if_pos c55] at H
                                    have c55b0 : decide ((ji53) < (t153.length : Int)) = true := decide_eq_true c55
                                    clear c55
                                    by_cases c56 : (rd t153 x11_1) = (rd t153 (ji53))
                                    · rw [if_pos c56] at H
                                      have c56b0 : ((rd t153 x11_1) == (rd t153 (ji53))) = true := beq_iff_eq.mpr c56
                                      have c56b1 : ((rd t153 x11_1) != (rd t153 (ji53))) = false := bne_eq_false_iff_eq.mpr c56
                                      clear c56
                                      have H' := Aside0.mk H
                                      clear H
                                      have p170 : 0 ≤ (x11_1 : Int) := of_decide_eq_true (by first | (with_reducible assumption) | assumption)
                                      have q170 : x11_1 < (t153.length : Int) := of_decide_eq_true (by first | (with_reducible assumption) | assumption)
                                      obtain ⟨ad170, e170, hx170_0⟩ := Kd.at_int (Kd.R_reads' HO_7.out).2.2 x11_1 p170 q170
                                      cases e170
                                      replace p170 := eq_true p170
                                      replace q170 := eq_true q170
                                      have p171 : 0 ≤ ((ji53) : Int) := of_decide_eq_true (by first | (with_reducible assumption) | assumption)
                                      have q171 : (ji53) < (t153.length : Int) := of_decide_eq_true (by first | (with_reducible assumption) | assumption)
                                      obtain ⟨ad171, e171, hx171_0⟩ := Kd.at_int (Kd.R_reads' HO_7.out).2.2 (ji53) p171 q171
                                      obtain rfl : ad170 = ad171 := (by injection e171)
                                      replace p171 := eq_true p171
                                      replace q171 := eq_true q171
                                      go_wp2
                                      repeat (go_quiet (fail); try go_wp2)
                                      go_roundg kj20
                                      case measure => have := HK1.out; have := HJ17.out; have := HJ20.out; omega
                                      case rel => exact ⟨(x8_1), (x9_1), (x10_1), (wrap64 (x11_1 + 1)), (by first | rfl | (simp; done) | (simp [*]; done)), (by first | rfl | (simp; done) | (simp [*]; done)), (by first | rfl | (simp; done) | (simp [*]; done)), (by first | rfl | (simp; done) | (simp [*]; done)), H', ⟨by have := HK1.out; have := HJ17.out; have := HJ20.out; omega⟩, ⟨by (with_reducible repeat (first | apply Kd.R_alloc | apply Kd.R_drewN | apply Kd.R_drew)); exact HO_7.out⟩, ⟨by repeat (first | (with_reducible first | exact HB.out | apply below_alloc | apply pw_below_drewN | apply below_drew1) | exact HB.out)⟩⟩
                                    · rw [if_neg c56] at H
                                      have c56b0 : ((rd t153 x11_1) == (rd t153 (ji53))) = false := beq_eq_false_iff_ne.mpr c56
                                      have c56b1 : ((rd t153 x11_1) != (rd t153 (ji53))) = true := bne_iff_ne.mpr c56
                                      replace H := Option.bind_eq_some_iff.mp H
                                      obtain ⟨t173, A570, H⟩ := H
                                      replace H : (if x9_1.size + t173.size ≤ 9223372036854775807 then (haulierref11_Encode.l0 kj20 t152 t153 x8_1 (x9_1 ++ t173) (wrap64 (x10_1 + 1)) (wrap64 (x11_1 + 1))) else (none)) = some (r1, r2) := H
                                      have A57 := Aside0.mk A570
                                      clear A570
                                      by_cases c58 : x9_1.size + t173.size ≤ 9223372036854775807
                                      · rw [if_pos c58] at H
                                        have c58b0 := eq_true c58
                                        have c58b1 : decide (x9_1.size + t173.size ≤ 9223372036854775807) = true := decide_eq_true c58
                                        try have c58b2 : (9223372036854775807 < x9_1.size + t173.size) = False := eq_false (Nat.not_lt.2 c58)
                                        have H' := Aside0.mk H
                                        clear H
                                        have p170 : 0 ≤ (x11_1 : Int) := of_decide_eq_true (by first | (with_reducible assumption) | assumption)
                                        have q170 : x11_1 < (t153.length : Int) := of_decide_eq_true (by first | (with_reducible assumption) | assumption)
                                        obtain ⟨ad170, e170, hx170_0⟩ := Kd.at_int (Kd.R_reads' HO_7.out).2.2 x11_1 p170 q170
                                        cases e170
                                        replace p170 := eq_true p170
                                        replace q170 := eq_true q170
                                        have p171 : 0 ≤ ((ji53) : Int) := of_decide_eq_true (by first | (with_reducible assumption) | assumption)
                                        have q171 : (ji53) < (t153.length : Int) := of_decide_eq_true (by first | (with_reducible assumption) | assumption)
                                        obtain ⟨ad171, e171, hx171_0⟩ := Kd.at_int (Kd.R_reads' HO_7.out).2.2 (ji53) p171 q171
                                        obtain rfl : ad170 = ad171 := (by injection e171)
                                        replace p171 := eq_true p171
                                        replace q171 := eq_true q171
                                        have p172 : 0 ≤ (x11_1 : Int) := of_decide_eq_true (by first | (with_reducible assumption) | assumption)
                                        have q172 : x11_1 < (t153.length : Int) := of_decide_eq_true (by first | (with_reducible assumption) | assumption)
                                        obtain ⟨ad172, e172, hx172_0⟩ := Kd.at_int (Kd.R_reads' HO_7.out).2.2 x11_1 p172 q172
                                        obtain rfl : ad170 = ad172 := (by injection e172)
                                        replace p172 := eq_true p172
                                        replace q172 := eq_true q172
                                        go_wp2_with (first | (go_at_call 23; (with_reducible refine (haulierref05_Put.calls (wrap64 ((wrap64 (2048 * (rd t153 x11_1))) + (Int.tmod (wrap64 (t152 + x11_1)) 1440))) t173 _ A57.out).mono ?_); rintro e w59 ⟨rfl, hb⟩; have n0_ := Aside0.mk (Kd.R_below (by (with_reducible repeat (first | apply Kd.R_alloc | apply Kd.R_drewN | apply Kd.R_drew)); exact HO_7.out) hb); have n1_ := Aside0.mk (below_step (by repeat (first | (with_reducible first | exact HB.out | apply below_alloc | apply pw_below_drewN | apply below_drew1) | exact HB.out)) hb); clear HO_7; clear HB; have HO_7 := n0_; have HB := n1_; clear n0_ n1_; (try clear hb); (try clear hb2); (try clear hk); (try clear hi)))
                                        repeat (go_quiet (first | (go_at_call 23; (with_reducible refine (haulierref05_Put.calls (wrap64 ((wrap64 (2048 * (rd t153 x11_1))) + (Int.tmod (wrap64 (t152 + x11_1)) 1440))) t173 _ A57.out).mono ?_); rintro e w59 ⟨rfl, hb⟩; have n0_ := Aside0.mk (Kd.R_below (by (with_reducible repeat (first | apply Kd.R_alloc | apply Kd.R_drewN | apply Kd.R_drew)); exact HO_7.out) hb); have n1_ := Aside0.mk (below_step (by repeat (first | (with_reducible first | exact HB.out | apply below_alloc | apply pw_below_drewN | apply below_drew1) | exact HB.out)) hb); clear HO_7; clear HB; have HO_7 := n0_; have HB := n1_; clear n0_ n1_; (try clear hb); (try clear hb2); (try clear hk); (try clear hi))); try go_wp2_with (first | (go_at_call 23; (with_reducible refine (haulierref05_Put.calls (wrap64 ((wrap64 (2048 * (rd t153 x11_1))) + (Int.tmod (wrap64 (t152 + x11_1)) 1440))) t173 _ A57.out).mono ?_); rintro e w59 ⟨rfl, hb⟩; have n0_ := Aside0.mk (Kd.R_below (by (with_reducible repeat (first | apply Kd.R_alloc | apply Kd.R_drewN | apply Kd.R_drew)); exact HO_7.out) hb); have n1_ := Aside0.mk (below_step (by repeat (first | (with_reducible first | exact HB.out | apply below_alloc | apply pw_below_drewN | apply below_drew1) | exact HB.out)) hb); clear HO_7; clear HB; have HO_7 := n0_; have HB := n1_; clear n0_ n1_; (try clear hb); (try clear hb2); (try clear hk); (try clear hi))))
                                        go_roundg kj20
                                        case measure => have := HK1.out; have := HJ17.out; have := HJ20.out; omega
                                        case rel => exact ⟨(x8_1), (x9_1 ++ t173), (wrap64 (x10_1 + 1)), (wrap64 (x11_1 + 1)), (by first | rfl | (simp; done) | (simp [*]; done)), (by first | rfl | (simp; done) | (simp [*]; done)), (by first | rfl | (simp; done) | (simp [*]; done)), (by first | rfl | (simp; done) | (simp [*]; done)), H', ⟨by have := HK1.out; have := HJ17.out; have := HJ20.out; omega⟩, ⟨by (with_reducible repeat (first | apply Kd.R_alloc | apply Kd.R_drewN | apply Kd.R_drew)); exact HO_7.out⟩, ⟨by repeat (first | (with_reducible first | exact HB.out | apply below_alloc | apply pw_below_drewN | apply below_drew1) | exact HB.out)⟩⟩
                                      · rw [if_neg c58] at H
                                        exact absurd H (by simp)
                                  · rw [if_neg c55] at H
                                    exact absurd H (by simp)
                                · rw [if_neg c54] at H
                                  exact absurd H (by simp)
                              · rw [if_neg c52] at H
                                exact absurd H (by simp)
                            · rw [if_neg c51] at H
                              exact absurd H (by simp)
              · rw [if_neg c17] at H
                have c17b0 : decide (x11_1 < (t153.length : Int)) = false := decide_eq_false c17
                clear c17
                replace H := Option.bind_eq_some_iff.mp H
                obtain ⟨t159, A600, H⟩ := H
                replace H : (if x8_1.size + t159.size ≤ 9223372036854775807 then (if (x8_1 ++ t159).size + x9_1.size ≤ 9223372036854775807 then ((haulierref05_Seal.f k1 ((x8_1 ++ t159) ++ x9_1)).bind fun t160 => (some (t160, 0))) else (none)) else (none)) = some (r1, r2) := H
                have A60 := Aside0.mk A600
                clear A600
                by_cases c61 : x8_1.size + t159.size ≤ 9223372036854775807
                · rw [if_pos c61] at H
                  have c61b0 := eq_true c61
                  have c61b1 : decide (x8_1.size + t159.size ≤ 9223372036854775807) = true := decide_eq_true c61
                  try have c61b2 : (9223372036854775807 < x8_1.size + t159.size) = False := eq_false (Nat.not_lt.2 c61)
                  by_cases c62 : (x8_1 ++ t159).size + x9_1.size ≤ 9223372036854775807
                  · rw [if_pos c62] at H
                    have c62b0 := eq_true c62
                    have c62b1 : decide ((x8_1 ++ t159).size + x9_1.size ≤ 9223372036854775807) = true := decide_eq_true c62
                    try have c62b2 : (9223372036854775807 < (x8_1 ++ t159).size + x9_1.size) = False := eq_false (Nat.not_lt.2 c62)
                    replace H := Option.bind_eq_some_iff.mp H
                    obtain ⟨t160, A630, H⟩ := H
                    replace H : (some (t160, 0)) = some (r1, r2) := H
                    have A63 := Aside0.mk A630
                    clear A630
                    simp only [Option.some.injEq, Prod.mk.injEq] at H
                    obtain ⟨rfl, rfl⟩ := H
                    obtain ⟨Ao64, co64, eo64⟩ := Kd.R_slice HO_7.out
                    subst eo64
                    go_wp2_with (first | (go_at_call 23; (with_reducible refine (haulierref05_Put.calls x10_1 t159 _ A60.out).mono ?_); rintro e w65 ⟨rfl, hb⟩; have n0_ := Aside0.mk (Kd.R_below (by (with_reducible repeat (first | apply Kd.R_alloc | apply Kd.R_drewN | apply Kd.R_drew)); exact HO_7.out) hb); have n1_ := Aside0.mk (below_step (by repeat (first | (with_reducible first | exact HB.out | apply below_alloc | apply pw_below_drewN | apply below_drew1) | exact HB.out)) hb); clear HO_7; clear HB; have HO_7 := n0_; have HB := n1_; clear n0_ n1_; (try clear hb); (try clear hb2); (try clear hk); (try clear hi)) | (go_at_call 25; (with_reducible refine (haulierref05_Seal.calls k1 ((x8_1 ++ t159) ++ x9_1) t160 _ A63.out).mono ?_); rintro e w66 ⟨rfl, hb⟩; have n0_ := Aside0.mk (Kd.R_below (by (with_reducible repeat (first | apply Kd.R_alloc | apply Kd.R_drewN | apply Kd.R_drew)); exact HO_7.out) hb); have n1_ := Aside0.mk (below_step (by repeat (first | (with_reducible first | exact HB.out | apply below_alloc | apply pw_below_drewN | apply below_drew1) | exact HB.out)) hb); clear HO_7; clear HB; have HO_7 := n0_; have HB := n1_; clear n0_ n1_; (try clear hb); (try clear hb2); (try clear hk); (try clear hi)))
                    repeat (go_quiet (first | (go_at_call 23; (with_reducible refine (haulierref05_Put.calls x10_1 t159 _ A60.out).mono ?_); rintro e w65 ⟨rfl, hb⟩; have n0_ := Aside0.mk (Kd.R_below (by (with_reducible repeat (first | apply Kd.R_alloc | apply Kd.R_drewN | apply Kd.R_drew)); exact HO_7.out) hb); have n1_ := Aside0.mk (below_step (by repeat (first | (with_reducible first | exact HB.out | apply below_alloc | apply pw_below_drewN | apply below_drew1) | exact HB.out)) hb); clear HO_7; clear HB; have HO_7 := n0_; have HB := n1_; clear n0_ n1_; (try clear hb); (try clear hb2); (try clear hk); (try clear hi)) | (go_at_call 25; (with_reducible refine (haulierref05_Seal.calls k1 ((x8_1 ++ t159) ++ x9_1) t160 _ A63.out).mono ?_); rintro e w66 ⟨rfl, hb⟩; have n0_ := Aside0.mk (Kd.R_below (by (with_reducible repeat (first | apply Kd.R_alloc | apply Kd.R_drewN | apply Kd.R_drew)); exact HO_7.out) hb); have n1_ := Aside0.mk (below_step (by repeat (first | (with_reducible first | exact HB.out | apply below_alloc | apply pw_below_drewN | apply below_drew1) | exact HB.out)) hb); clear HO_7; clear HB; have HO_7 := n0_; have HB := n1_; clear n0_ n1_; (try clear hb); (try clear hb2); (try clear hk); (try clear hi))); try go_wp2_with (first | (go_at_call 23; (with_reducible refine (haulierref05_Put.calls x10_1 t159 _ A60.out).mono ?_); rintro e w65 ⟨rfl, hb⟩; have n0_ := Aside0.mk (Kd.R_below (by (with_reducible repeat (first | apply Kd.R_alloc | apply Kd.R_drewN | apply Kd.R_drew)); exact HO_7.out) hb); have n1_ := Aside0.mk (below_step (by repeat (first | (with_reducible first | exact HB.out | apply below_alloc | apply pw_below_drewN | apply below_drew1) | exact HB.out)) hb); clear HO_7; clear HB; have HO_7 := n0_; have HB := n1_; clear n0_ n1_; (try clear hb); (try clear hb2); (try clear hk); (try clear hi)) | (go_at_call 25; (with_reducible refine (haulierref05_Seal.calls k1 ((x8_1 ++ t159) ++ x9_1) t160 _ A63.out).mono ?_); rintro e w66 ⟨rfl, hb⟩; have n0_ := Aside0.mk (Kd.R_below (by (with_reducible repeat (first | apply Kd.R_alloc | apply Kd.R_drewN | apply Kd.R_drew)); exact HO_7.out) hb); have n1_ := Aside0.mk (below_step (by repeat (first | (with_reducible first | exact HB.out | apply below_alloc | apply pw_below_drewN | apply below_drew1) | exact HB.out)) hb); clear HO_7; clear HB; have HO_7 := n0_; have HB := n1_; clear n0_ n1_; (try clear hb); (try clear hb2); (try clear hk); (try clear hi))))
                    go_ret2
                    exact ⟨by first | rfl | (simp [errW_none, errW_some] <;> rfl) | (simp [*, errW_none, errW_some] <;> rfl), by repeat (first | (with_reducible first | exact HB.out | apply below_alloc | apply pw_below_drewN | apply below_drew1) | exact HB.out)⟩
                  · rw [if_neg c62] at H
                    exact absurd H (by simp)
                · rw [if_neg c61] at H
                  exact absurd H (by simp)
        · rw [if_neg c12] at H
          exact absurd H (by simp)
      · rw [if_neg c9] at H
        exact absurd H (by simp)
  · rw [if_neg c3] at H
    have c3b0 : (t151 == 0) = false := beq_eq_false_iff_ne.mpr c3
    have c3b1 : (t151 != 0) = true := bne_iff_ne.mpr c3
    simp only [Option.some.injEq, Prod.mk.injEq] at H
    obtain ⟨rfl, rfl⟩ := H
    go_enter Try.func11, Try.ntmps11
    go_wp2_with (first | (go_at_call 20; (with_reducible refine (haulierref08_Check.calls k _ _ l0 t150 t151 _ ?side1 ?side2 A2.out).mono ?_); (case side1 => repeat (first | exact HR0.out | (with_reducible refine Kd.C_alloc ?_ _) | (with_reducible refine Kd.C_drewN ?_ _) | (with_reducible refine Kd.C_drew ?_))); (case side2 => exact HC0.out); rintro e w67 ⟨rfl, hb⟩; have n0_ := Aside0.mk (below_step (by repeat (first | (with_reducible first | exact HB.out | apply below_alloc | apply pw_below_drewN | apply below_drew1) | exact HB.out)) hb); clear HB; have HB := n0_; clear n0_; (try clear hb); (try clear hb2); (try clear hk); (try clear hi)))
    repeat (go_quiet (first | (go_at_call 20; (with_reducible refine (haulierref08_Check.calls k _ _ l0 t150 t151 _ ?side1 ?side2 A2.out).mono ?_); (case side1 => repeat (first | exact HR0.out | (with_reducible refine Kd.C_alloc ?_ _) | (with_reducible refine Kd.C_drewN ?_ _) | (with_reducible refine Kd.C_drew ?_))); (case side2 => exact HC0.out); rintro e w67 ⟨rfl, hb⟩; have n0_ := Aside0.mk (below_step (by repeat (first | (with_reducible first | exact HB.out | apply below_alloc | apply pw_below_drewN | apply below_drew1) | exact HB.out)) hb); clear HB; have HB := n0_; clear n0_; (try clear hb); (try clear hb2); (try clear hk); (try clear hi))); try go_wp2_with (first | (go_at_call 20; (with_reducible refine (haulierref08_Check.calls k _ _ l0 t150 t151 _ ?side1 ?side2 A2.out).mono ?_); (case side1 => repeat (first | exact HR0.out | (with_reducible refine Kd.C_alloc ?_ _) | (with_reducible refine Kd.C_drewN ?_ _) | (with_reducible refine Kd.C_drew ?_))); (case side2 => exact HC0.out); rintro e w67 ⟨rfl, hb⟩; have n0_ := Aside0.mk (below_step (by repeat (first | (with_reducible first | exact HB.out | apply below_alloc | apply pw_below_drewN | apply below_drew1) | exact HB.out)) hb); clear HB; have HB := n0_; clear n0_; (try clear hb); (try clear hb2); (try clear hk); (try clear hi))))
    go_ret2
    exact ⟨by first | rfl | (simp [errW_none, errW_some] <;> rfl) | (simp [*, errW_none, errW_some] <;> rfl), by repeat (first | (with_reducible first | exact HB.out | apply below_alloc | apply pw_below_drewN | apply below_drew1) | exact HB.out)⟩

/-! ### haulierlaw11_DiscEncodes: function 4 -/
def haulierlaw11_DiscEncodes.f (k : Nat) (l0 : List (S48)) : Option (Bool) := if (l0.length : Int) > 100 then ((haulierlaw11_alive.f k).bind fun t174 => (some t174)) else ((disc_Encode.f k l0).bind fun bt175 => ((haulierref11_Encode.f k l0).bind fun bt177 => (if bt175.1.toList = bt177.1.toList then (if bt175.2 = bt177.2 then ((haulierlaw11_alive.f k).bind fun t179 => (some t179)) else (none)) else (none))))
theorem haulierlaw11_DiscEncodes.mono : ∀ a0 k, LeO (haulierlaw11_DiscEncodes.f k a0) (haulierlaw11_DiscEncodes.f (k + 1) a0) := by
  intro a0 k
  unfold haulierlaw11_DiscEncodes.f
  repeat' first
      | (with_reducible exact disc_Encode.mono _ _)
      | (with_reducible exact haulierlaw11_alive.mono _)
      | (with_reducible exact haulierref11_Encode.mono _ _)
      | (with_reducible exact LeO.refl _)
      | (with_reducible exact LeO.none _)
      | (with_reducible refine LeO.ite ?_ ?_)
      | (with_reducible refine LeO.bind ?_ (fun _ => ?_))
      | exact disc_Encode.mono _ _
      | exact haulierlaw11_alive.mono _
      | exact haulierref11_Encode.mono _ _
      | exact LeO.none _
      | refine LeO.ite ?_ ?_
      | refine LeO.bind ?_ (fun _ => ?_)
set_option maxHeartbeats 8000000 in
set_option maxRecDepth 100000 in
theorem haulierlaw11_DiscEncodes.calls (k : Nat) (A0 : Option Addr) (c0 : Nat) (l0 : List (S48)) (r : Bool) (w : World) (hr0 : Kd.C k48 w A0 l0.length l0) (hc0 : l0.length ≤ c0) (h : haulierlaw11_DiscEncodes.f k l0 = some r) :
    Calls Try.prog 4 #[.slice A0 l0.length c0] w fun e w' => e = .returned (.bool r) ∧ Below w.heap.size w w' := by
  have HR0 := Aside0.mk hr0
  have HC0 := Aside0.mk hc0
  clear hr0 hc0
  have HB := Aside0.mk (Below.refl w.heap.size w)
  have H : (if (l0.length : Int) > 100 then ((haulierlaw11_alive.f k).bind fun t174 => (some t174)) else ((disc_Encode.f k l0).bind fun bt175 => ((haulierref11_Encode.f k l0).bind fun bt177 => (if bt175.1.toList = bt177.1.toList then (if bt175.2 = bt177.2 then ((haulierlaw11_alive.f k).bind fun t179 => (some t179)) else (none)) else (none))))) = some r := h
  clear h
  by_cases c2 : (l0.length : Int) > 100
  · rw [if_pos c2] at H
    have c2b0 : decide (100 < (l0.length : Int)) = true := decide_eq_true c2
    have c2b1 : decide (100 < l0.length) = true := decide_eq_true (by omega)
    clear c2
    replace H := Option.bind_eq_some_iff.mp H
    obtain ⟨t174, A30, H⟩ := H
    replace H : (some t174) = some r := H
    have A3 := Aside0.mk A30
    clear A30
    obtain rfl := Option.some.inj H
    go_enter Try.func4, Try.ntmps4
    go_wp2_with (first | ((with_reducible refine gate_callee (f := 9) rfl ?_); refine goesL_ (some 10) rfl rfl Try.func9 (by kernel_rfl) rfl #[] rfl (by (try simp only [List.map_toArray, List.map_cons, List.map_nil]); first | done | rfl | (simp only [List.length_drop, List.length_take]; rfl)) ?_; (with_reducible refine (haulierlaw11_alive.calls k  t174 _ A3.out).mono ?_); rintro e w' ⟨rfl, ⟨nd, rfl⟩⟩; refine ⟨_, rfl, ?_⟩))
    go_ret
    exact ⟨by first | rfl | (simp [errW_none, errW_some] <;> rfl) | (simp [*, errW_none, errW_some] <;> rfl), by repeat (first | (with_reducible first | exact HB.out | apply below_alloc | apply pw_below_drewN | apply below_drew1) | exact HB.out)⟩
  · rw [if_neg c2] at H
    have c2b0 : decide (100 < (l0.length : Int)) = false := decide_eq_false c2
    have c2b1 : decide (100 < l0.length) = false := decide_eq_false (by omega)
    clear c2
    replace H := Option.bind_eq_some_iff.mp H
    obtain ⟨⟨t175, t176⟩, A40, H⟩ := H
    replace H : ((haulierref11_Encode.f k l0).bind fun bt177 => (if t175.toList = bt177.1.toList then (if t176 = bt177.2 then ((haulierlaw11_alive.f k).bind fun t179 => (some t179)) else (none)) else (none))) = some r := H
    have A4 := Aside0.mk A40
    clear A40
    replace H := Option.bind_eq_some_iff.mp H
    obtain ⟨⟨t177, t178⟩, A50, H⟩ := H
    replace H : (if t175.toList = t177.toList then (if t176 = t178 then ((haulierlaw11_alive.f k).bind fun t179 => (some t179)) else (none)) else (none)) = some r := H
    have A5 := Aside0.mk A50
    clear A50
    by_cases c6 : t175.toList = t177.toList
    · rw [if_pos c6] at H
      have c6b0 : (t175.toList == t177.toList) = true := beq_iff_eq.mpr c6
      have c6b1 : (t175.toList != t177.toList) = false := bne_eq_false_iff_eq.mpr c6
      clear c6
      by_cases c7 : t176 = t178
      · rw [if_pos c7] at H
        have c7b0 : (t176 == t178) = true := beq_iff_eq.mpr c7
        have c7b1 : (t176 != t178) = false := bne_eq_false_iff_eq.mpr c7
        clear c7
        replace H := Option.bind_eq_some_iff.mp H
        obtain ⟨t179, A80, H⟩ := H
        replace H : (some t179) = some r := H
        have A8 := Aside0.mk A80
        clear A80
        obtain rfl := Option.some.inj H
        go_enter Try.func4, Try.ntmps4
        go_wp2_with (first | ((with_reducible refine gate_callee (f := 10) rfl ?_); refine goesL_ (some 13) rfl rfl Try.func10 (by kernel_rfl) rfl #[.slice A0 l0.length c0] rfl (by (try simp only [List.map_toArray, List.map_cons, List.map_nil]); first | done | rfl | (simp only [List.length_drop, List.length_take]; rfl)) ?_; (with_reducible refine (disc_Encode.calls k _ _ l0 t175 t176 _ ?side1 ?side2 A4.out).mono ?_); (case side1 => repeat (first | exact HR0.out | (with_reducible refine Kd.C_alloc ?_ _) | (with_reducible refine Kd.C_drewN ?_ _) | (with_reducible refine Kd.C_drew ?_))); (case side2 => exact HC0.out); rintro e w9 ⟨rfl, hb⟩; refine ⟨_, rfl, ?_⟩; have n0_ := Aside0.mk (below_step (by repeat (first | (with_reducible first | exact HB.out | apply below_alloc | apply pw_below_drewN | apply below_drew1) | exact HB.out)) hb); clear HB; have HB := n0_; clear n0_; (try clear hb); (try clear hb2); (try clear hk); (try clear hi)) | ((with_reducible refine gate_callee (f := 11) rfl ?_); refine goesL_ (some 18) rfl rfl Try.func11 (by kernel_rfl) rfl #[.slice A0 l0.length c0] rfl (by (try simp only [List.map_toArray, List.map_cons, List.map_nil]); first | done | rfl | (simp only [List.length_drop, List.length_take]; rfl)) ?_; (with_reducible refine (haulierref11_Encode.calls k _ _ l0 t177 t178 _ ?side1 ?side2 A5.out).mono ?_); (case side1 => repeat (first | exact (Kd.C_below HR0.out HB.out) | (with_reducible refine Kd.C_alloc ?_ _) | (with_reducible refine Kd.C_drewN ?_ _) | (with_reducible refine Kd.C_drew ?_))); (case side2 => exact HC0.out); rintro e w10 ⟨rfl, hb⟩; refine ⟨_, rfl, ?_⟩; have n0_ := Aside0.mk (below_step (by repeat (first | (with_reducible first | exact HB.out | apply below_alloc | apply pw_below_drewN | apply below_drew1) | exact HB.out)) hb); clear HB; have HB := n0_; clear n0_; (try clear hb); (try clear hb2); (try clear hk); (try clear hi)) | (go_at_call 9; (with_reducible refine (haulierlaw11_alive.calls k  t179 _ A8.out).mono ?_); rintro e w' ⟨rfl, ⟨nd, rfl⟩⟩))
        go_ret
        exact ⟨by first | rfl | (simp [errW_none, errW_some] <;> rfl) | (simp [*, errW_none, errW_some] <;> rfl), by repeat (first | (with_reducible first | exact HB.out | apply below_alloc | apply pw_below_drewN | apply below_drew1) | exact HB.out)⟩
      · rw [if_neg c7] at H
        exact absurd H (by simp)
    · rw [if_neg c6] at H
      exact absurd H (by simp)

def OK48 (x : S48) : Prop := (Lit.int .i64 x.f0).wf = true ∧ ((Lit.int .i64 x.f1).wf = true ∧ ((Lit.int .i64 x.f2).wf = true))
/-- THE ONE PURE STATEMENT of haulierlaw11_DiscEncodes. -/
def haulierlaw11_DiscEncodes.Pure : Prop := ∀ (l0 : List (S48)), l0.length ≤ maxLen → (∀ x ∈ l0, OK48 x) → ∃ k, haulierlaw11_DiscEncodes.f k l0 = some true

end Go.Proofs.Ytjpnfhnmcgejhaa.MDiscEncodes
