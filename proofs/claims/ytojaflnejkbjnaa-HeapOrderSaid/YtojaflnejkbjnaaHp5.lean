/- container/heap's up, down and Init over the program's row. -/
import Derived.Test.YtojaflnejkbjnaaHp4
namespace Go.Proofs.Ytojaflnejkbjnaa.Hp5
open Go.RowKit Go.Proofs.YtojaflnejkbjnaaW.PrintWords Go.Proofs.YtojaflnejkbjnaaW.PrintLast Go.Proofs.YtojaflnejkbjnaaW.PrintMore Go.Proofs.Ytojaflnejkbjnaa.Hp1 Go.Proofs.Ytojaflnejkbjnaa.Hp2 Go.Proofs.Ytojaflnejkbjnaa.Hp3 Go.Proofs.Ytojaflnejkbjnaa.Hp4
attribute [local go_sem] max2_int min2_int max_two min_two max_three min_three max_four min_four
set_option linter.unusedVariables false
set_option linter.unusedSimpArgs false
theorem na57_Len (p : Addr) (w : World) : (nilAhead 57 51 (Value.pointer (some p)) "Len").run Try.prog w = .ok (some false) w := by kernel_rfl
theorem me57_Len (p : Addr) (w : World) : (method 57 51 (Value.pointer (some p)) "Len").run Try.prog w = .ok (19, .pointer (some p)) w := by kernel_rfl
theorem na184_Len (p : Addr) (w : World) : (nilAhead 184 51 (Value.pointer (some p)) "Len").run Try.prog w = .ok (some false) w := by kernel_rfl
theorem me184_Len (p : Addr) (w : World) : (method 184 51 (Value.pointer (some p)) "Len").run Try.prog w = .ok (19, .pointer (some p)) w := by kernel_rfl
theorem na57_Less (p : Addr) (w : World) : (nilAhead 57 51 (Value.pointer (some p)) "Less").run Try.prog w = .ok (some false) w := by kernel_rfl
theorem me57_Less (p : Addr) (w : World) : (method 57 51 (Value.pointer (some p)) "Less").run Try.prog w = .ok (45, .pointer (some p)) w := by kernel_rfl
theorem na184_Less (p : Addr) (w : World) : (nilAhead 184 51 (Value.pointer (some p)) "Less").run Try.prog w = .ok (some false) w := by kernel_rfl
theorem me184_Less (p : Addr) (w : World) : (method 184 51 (Value.pointer (some p)) "Less").run Try.prog w = .ok (45, .pointer (some p)) w := by kernel_rfl
theorem na57_Swap (p : Addr) (w : World) : (nilAhead 57 51 (Value.pointer (some p)) "Swap").run Try.prog w = .ok (some false) w := by kernel_rfl
theorem me57_Swap (p : Addr) (w : World) : (method 57 51 (Value.pointer (some p)) "Swap").run Try.prog w = .ok (48, .pointer (some p)) w := by kernel_rfl
theorem na184_Swap (p : Addr) (w : World) : (nilAhead 184 51 (Value.pointer (some p)) "Swap").run Try.prog w = .ok (some false) w := by kernel_rfl
theorem me184_Swap (p : Addr) (w : World) : (method 184 51 (Value.pointer (some p)) "Swap").run Try.prog w = .ok (48, .pointer (some p)) w := by kernel_rfl
theorem na57_Push (p : Addr) (w : World) : (nilAhead 57 51 (Value.pointer (some p)) "Push").run Try.prog w = .ok (some false) w := by kernel_rfl
theorem me57_Push (p : Addr) (w : World) : (method 57 51 (Value.pointer (some p)) "Push").run Try.prog w = .ok (47, .pointer (some p)) w := by kernel_rfl
theorem na184_Push (p : Addr) (w : World) : (nilAhead 184 51 (Value.pointer (some p)) "Push").run Try.prog w = .ok (some false) w := by kernel_rfl
theorem me184_Push (p : Addr) (w : World) : (method 184 51 (Value.pointer (some p)) "Push").run Try.prog w = .ok (47, .pointer (some p)) w := by kernel_rfl
theorem na57_Pop (p : Addr) (w : World) : (nilAhead 57 51 (Value.pointer (some p)) "Pop").run Try.prog w = .ok (some false) w := by kernel_rfl
theorem me57_Pop (p : Addr) (w : World) : (method 57 51 (Value.pointer (some p)) "Pop").run Try.prog w = .ok (46, .pointer (some p)) w := by kernel_rfl
theorem na184_Pop (p : Addr) (w : World) : (nilAhead 184 51 (Value.pointer (some p)) "Pop").run Try.prog w = .ok (some false) w := by kernel_rfl
theorem me184_Pop (p : Addr) (w : World) : (method 184 51 (Value.pointer (some p)) "Pop").run Try.prog w = .ok (46, .pointer (some p)) w := by kernel_rfl
attribute [local go_sem] na57_Len me57_Len na184_Len me184_Len na57_Less me57_Less na184_Less me184_Less na57_Swap me57_Swap na184_Swap me184_Swap na57_Push me57_Push na184_Push me184_Push na57_Pop me57_Pop na184_Pop me184_Pop
/-- An item goes up. -/
def upL (xs : List It) (j : Nat) : List It :=
  if h : j = 0 then xs else if lt3 (ri xs j) (ri xs ((j - 1) / 2)) = true then upL (swp xs ((j - 1) / 2) j) ((j - 1) / 2) else xs
termination_by j
decreasing_by omega
theorem upL_0 (xs : List It) : upL xs 0 = xs := by
  rw [upL]
  simp
theorem upL_y {xs : List It} {j : Nat} (h : 0 < j) (hl : lt3 (ri xs j) (ri xs ((j - 1) / 2)) = true) : upL xs j = upL (swp xs ((j - 1) / 2) j) ((j - 1) / 2) := by
  rw [upL, dif_neg (by omega), if_pos hl]
theorem upL_n {xs : List It} {j : Nat} (h : 0 < j) (hl : lt3 (ri xs j) (ri xs ((j - 1) / 2)) = false) : upL xs j = xs := by
  rw [upL, dif_neg (by omega), if_neg (by rw [hl]; decide)]
set_option maxHeartbeats 8000000 in
set_option maxRecDepth 100000 in
theorem up_ (base b : Nat) (A : Option Addr) (c : Nat) (xs : List It) (j : Nat) (hj : j < xs.length) (hl : xs.length ≤ 1000001) (w : World) (h : IsH w base b (.slice A xs.length c) xs) : Calls Try.prog 27 #[.iface 51 (.pointer (some ⟨b, 0, none⟩)), .int .i64 (j : Int)] w fun e w' => e = .returned (.tuple #[]) ∧ IsH w' base b (.slice A xs.length c) (upL xs j) ∧ HK w w' b (.slice A xs.length c) := by
  obtain ⟨r, hr⟩ : ∃ r, upL xs j = r := ⟨_, rfl⟩
  rw [hr]
  have HR := Aside0.mk hr
  have HJ0 := Aside0.mk hj
  have HL := Aside0.mk hl
  have HH := Aside0.mk h
  clear h hl hr hj
  go_enter Try.func27, Try.ntmps27
  go_wp2
  go_loopg [1] j (fun kq v1 w' => ∃ (i : Nat) (ys : List It), v1 = .int .i64 (i : Int) ∧ Aside0 (i < xs.length) ∧ Aside0 (i ≤ kq) ∧ Aside0 (ys.length = xs.length) ∧ Aside0 (upL ys i = r) ∧ Aside0 (IsH w' base b (.slice A xs.length c) ys) ∧ Aside0 (HK w w' b (.slice A xs.length c)))
  case atStart => exact ⟨j, xs, rfl, HJ0, ⟨Nat.le_refl _⟩, ⟨rfl⟩, HR, HH, ⟨HK.refl _ _ _⟩⟩
  case round =>
    clear HH
    obtain ⟨k, ys, rfl, HJ, HG, HYL, HE, HH, HK0⟩ := hrel
    obtain ⟨i, hi⟩ : ∃ i, (k - 1) / 2 = i := ⟨_, rfl⟩
    obtain ⟨m, hm⟩ : ∃ m : Int, m = (k : Int) - 1 := ⟨_, rfl⟩
    have hw1 : wrap64 ((k : Int) - 1) = m := by have := HJ.out; have := HL.out; unfold wrap64; omega
    have hw2 : wrap64 (m.tdiv 2) = (i : Int) := by
      have h1 : m.tdiv 2 = (i : Int) := by
        by_cases k0 : k = 0
        · subst k0
          have : i = 0 := by omega
          subst this
          have : m = -1 := by omega
          subst this
          rfl
        · rw [Int.tdiv_eq_ediv_of_nonneg (by omega)]
          omega
      rw [h1]
      have := HJ.out
      have := HL.out
      unfold wrap64
      omega
    have hw3 : IntKind.i64.wrap ((k : Int) - 1) = m := by rw [i64_w]; exact hw1
    have hw4 : IntKind.i64.wrap (m.tdiv 2) = (i : Int) := by rw [i64_w]; exact hw2
    have HI := Aside0.mk hi
    clear hm
    by_cases k0 : k = 0
    · have q1 : ((i : Int) == (k : Int)) = true := beq_iff_eq.mpr (by omega)
      have HEN := Aside0.mk (show ys = r by rw [← HE.out, k0, upL_0])
      clear k0 hi
      go_wp2
      (try refine bodyPost_end (results_none rfl _ _ _) rfl ?_)
      exact ⟨rfl, HEN.out ▸ HH.out, HK0.out⟩
    · have q1 : ((i : Int) == (k : Int)) = false := beq_eq_false_iff_ne.mpr (by omega)
      have HKP := Aside0.mk (show 0 < k by omega)
      have HIK := Aside0.mk (show i < k by omega)
      cases hlt : lt3 (ri ys k) (ri ys i) with
      | false =>
        have HLT := Aside0.mk hlt
        have HEN := Aside0.mk (show ys = r by rw [← HE.out, upL_n HKP.out (by rw [hi]; exact hlt)])
        clear k0 hi hlt
        go_wp2_with (first | (go_at_call 45; (with_reducible refine (rless_ base b A c xs.length ys k i (by have := HYL.out; have := HJ.out; have := HIK.out; omega) (by have := HYL.out; have := HJ.out; have := HIK.out; omega) _ HH.out).mono ?_); rintro e wv ⟨rfl, hb⟩; rw [HLT.out]; replace HK0 := Aside0.mk (HK0.out.trans (HK.of_below hb b _) (At.refl _ _)); replace HH := Aside0.mk (Hp2.IsH.step HH.out hb); clear hb))
        (try refine bodyPost_end (results_none rfl _ _ _) rfl ?_)
        exact ⟨rfl, HEN.out ▸ HH.out, HK0.out⟩
      | true =>
        have HLT := Aside0.mk hlt
        have HEN := Aside0.mk (show upL (swp ys i k) i = r by rw [← HE.out, upL_y HKP.out (by rw [hi]; exact hlt), hi])
        clear k0 hi hlt
        go_wp2_with (first | (go_at_call 45; (with_reducible refine (rless_ base b A c xs.length ys k i (by have := HYL.out; have := HJ.out; have := HIK.out; omega) (by have := HYL.out; have := HJ.out; have := HIK.out; omega) _ HH.out).mono ?_); rintro e wv ⟨rfl, hb⟩; rw [HLT.out]; replace HK0 := Aside0.mk (HK0.out.trans (HK.of_below hb b _) (At.refl _ _)); replace HH := Aside0.mk (Hp2.IsH.step HH.out hb); clear hb) | (go_at_call 48; (with_reducible refine (swap_ base b A c xs.length ys i k (by have := HYL.out; have := HJ.out; have := HIK.out; omega) (by have := HYL.out; have := HJ.out; have := HIK.out; omega) _ HH.out).mono ?_); rintro e wv ⟨rfl, hi, hk⟩; replace HK0 := Aside0.mk (HK0.out.trans hk (At.refl _ _)); have HH2 := Aside0.mk hi; clear hi hk))
        go_roundg i
        case measure => have := HIK.out; have := HG.out; omega
        case rel => exact ⟨i, _, rfl, ⟨by have := HIK.out; have := HJ.out; omega⟩, ⟨Nat.le_refl _⟩, ⟨(swp_len _ _ _).trans HYL.out⟩, HEN, HH2, HK0⟩
/-- The child that comes first. -/
def chi (n : Nat) (xs : List It) (i : Nat) : Nat := if 2 * i + 2 < n ∧ lt3 (ri xs (2 * i + 2)) (ri xs (2 * i + 1)) = true then 2 * i + 2 else 2 * i + 1
theorem chi_gt (n : Nat) (xs : List It) (i : Nat) : i < chi n xs i := by
  unfold chi
  split <;> omega
theorem chi_lt {n : Nat} {xs : List It} {i : Nat} (h : 2 * i + 1 < n) : chi n xs i < n := by
  unfold chi
  split <;> omega
/-- An item goes down, among the first n. -/
def dnL (n : Nat) (xs : List It) (i : Nat) : List It :=
  if h : 2 * i + 1 < n then (if lt3 (ri xs (chi n xs i)) (ri xs i) = true then dnL n (swp xs i (chi n xs i)) (chi n xs i) else xs) else xs
termination_by n - i
decreasing_by
  have := chi_gt n xs i
  omega
theorem dnL_e {n : Nat} {xs : List It} {i : Nat} (h : n ≤ 2 * i + 1) : dnL n xs i = xs := by
  rw [dnL, dif_neg (by omega)]
theorem dnL_y {n : Nat} {xs : List It} {i j : Nat} (h : 2 * i + 1 < n) (hj : chi n xs i = j) (hl : lt3 (ri xs j) (ri xs i) = true) : dnL n xs i = dnL n (swp xs i j) j := by
  rw [dnL, dif_pos h, hj, if_pos hl]
theorem dnL_n {n : Nat} {xs : List It} {i j : Nat} (h : 2 * i + 1 < n) (hj : chi n xs i = j) (hl : lt3 (ri xs j) (ri xs i) = false) : dnL n xs i = xs := by
  rw [dnL, dif_pos h, hj, if_neg (by rw [hl]; decide)]
theorem dnL_len (n : Nat) (xs : List It) (i : Nat) : (dnL n xs i).length = xs.length := by
  fun_induction dnL n xs i with
  | case1 xs i h1 h2 ih => rw [ih, swp_len]
  | case2 => rfl
  | case3 => rfl
theorem upL_len (xs : List It) (j : Nat) : (upL xs j).length = xs.length := by
  fun_induction upL xs j with
  | case1 => rfl
  | case2 xs j h1 h2 ih => rw [ih, swp_len]
  | case3 => rfl
/-- A row of items made a heap, from item k - 1 on. -/
def iniL (n : Nat) : Nat → List It → List It
  | 0, xs => xs
  | k + 1, xs => iniL n k (dnL n xs k)
theorem iniL_len (n k : Nat) : ∀ xs : List It, (iniL n k xs).length = xs.length := by
  induction k with
  | zero => intro xs; rfl
  | succ k ih => intro xs; rw [iniL, ih, dnL_len]
set_option maxHeartbeats 8000000 in
set_option maxRecDepth 100000 in
theorem down_ (base b : Nat) (A : Option Addr) (c n : Nat) (xs : List It) (i0 : Nat) (hn : n ≤ xs.length) (hi : i0 ≤ xs.length) (hl : xs.length ≤ 1000001) (w : World) (h : IsH w base b (.slice A xs.length c) xs) : Calls Try.prog 24 #[.iface 51 (.pointer (some ⟨b, 0, none⟩)), .int .i64 (i0 : Int), .int .i64 (n : Int)] w fun e w' => ∃ q : Bool, e = .returned (.bool q) ∧ IsH w' base b (.slice A xs.length c) (dnL n xs i0) ∧ HK w w' b (.slice A xs.length c) := by
  obtain ⟨r, hr⟩ : ∃ r, dnL n xs i0 = r := ⟨_, rfl⟩
  rw [hr]
  have HR := Aside0.mk hr
  have HN := Aside0.mk hn
  have HI0 := Aside0.mk hi
  have HL := Aside0.mk hl
  have HH := Aside0.mk h
  clear h hl hr hn hi
  go_enter Try.func24, Try.ntmps24
  go_wp2
  go_loopg [7] (n - i0) (fun kq v7 w' => ∃ (i : Nat) (ys : List It), v7 = .int .i64 (i : Int) ∧ Aside0 (i ≤ xs.length) ∧ Aside0 (n - i ≤ kq) ∧ Aside0 (ys.length = xs.length) ∧ Aside0 (dnL n ys i = r) ∧ Aside0 (IsH w' base b (.slice A xs.length c) ys) ∧ Aside0 (HK w w' b (.slice A xs.length c)))
  case atStart => exact ⟨i0, xs, rfl, HI0, ⟨Nat.le_refl _⟩, ⟨rfl⟩, HR, HH, ⟨HK.refl _ _ _⟩⟩
  case round =>
    clear HH
    obtain ⟨i, ys, rfl, HJ, HG, HYL, HE, HH, HK0⟩ := hrel
    obtain ⟨m, hm⟩ : ∃ m : Int, m = 2 * (i : Int) := ⟨_, rfl⟩
    obtain ⟨j1, hj1⟩ : ∃ j, j = 2 * i + 1 := ⟨_, rfl⟩
    obtain ⟨j2, hj2⟩ : ∃ j, j = 2 * i + 2 := ⟨_, rfl⟩
    have hb0 := HJ.out
    have hb1 := HL.out
    have hb2 := HN.out
    have hw1 : wrap64 (2 * (i : Int)) = m := by unfold wrap64; omega
    have hw2 : wrap64 (m + 1) = (j1 : Int) := by unfold wrap64; omega
    have hw3 : wrap64 ((j1 : Int) + 1) = (j2 : Int) := by unfold wrap64; omega
    have hw4 : IntKind.i64.wrap (2 * (i : Int)) = m := by rw [i64_w]; exact hw1
    have hw5 : IntKind.i64.wrap (m + 1) = (j1 : Int) := by rw [i64_w]; exact hw2
    have hw6 : IntKind.i64.wrap ((j1 : Int) + 1) = (j2 : Int) := by rw [i64_w]; exact hw3
    have p0 : ((j1 : Int) < 0) = False := eq_false (by omega)
    have HJ1 := Aside0.mk hj1
    have HJ2 := Aside0.mk hj2
    clear hm
    by_cases c1 : (n : Int) ≤ (j1 : Int)
    · have HEN := Aside0.mk (show ys = r by rw [← HE.out, dnL_e (by omega)])
      replace c1 := eq_true c1
      clear hj1 hj2 hb0 hb1 hb2
      go_wp2
      first | go_ret | go_ret2
      exact ⟨_, rfl, HEN.out ▸ HH.out, HK0.out⟩
    · have H1 := Aside0.mk (show 2 * i + 1 < n by omega)
      by_cases c2 : (j2 : Int) < (n : Int)
      · have H2 := Aside0.mk (show 2 * i + 2 < n by omega)
        replace c1 := eq_false c1
        replace c2 := eq_true c2
        cases hl2 : lt3 (ri ys j2) (ri ys j1) with
        | true =>
          have HL2 := Aside0.mk hl2
          have HCH := Aside0.mk (show chi n ys i = j2 by unfold chi; rw [if_pos ⟨H2.out, by rw [← hj1, ← hj2]; exact hl2⟩, hj2])
          have HJN := Aside0.mk (show j2 < n by have := H2.out; omega)
          have HJI := Aside0.mk (show i < j2 by omega)
          clear hj1 hj2 hb0 hb1 hb2 hl2
          cases hlt : lt3 (ri ys j2) (ri ys i) with
          | false =>
            have HLT := Aside0.mk hlt
            have HEN := Aside0.mk (show ys = r by rw [← HE.out, dnL_n H1.out HCH.out hlt])
            clear hlt
            go_wp2_with (first | (go_at_call 45; (with_reducible refine (rless_ base b A c xs.length ys j2 j1 (by have := HYL.out; have := HN.out; have := HJN.out; omega) (by have := HYL.out; have := HN.out; have := HJ1.out; have := H1.out; omega) _ HH.out).mono ?_); rintro e wv ⟨rfl, hb⟩; rw [HL2.out]; replace HK0 := Aside0.mk (HK0.out.trans (HK.of_below hb b _) (At.refl _ _)); replace HH := Aside0.mk (Hp2.IsH.step HH.out hb); clear hb) | (go_at_call 45; (with_reducible refine (rless_ base b A c xs.length ys j2 i (by have := HYL.out; have := HN.out; have := HJN.out; omega) (by have := HYL.out; have := HN.out; have := H1.out; omega) _ HH.out).mono ?_); rintro e wv ⟨rfl, hb⟩; rw [HLT.out]; replace HK0 := Aside0.mk (HK0.out.trans (HK.of_below hb b _) (At.refl _ _)); replace HH := Aside0.mk (Hp2.IsH.step HH.out hb); clear hb))
            first | go_ret | go_ret2
            exact ⟨_, rfl, HEN.out ▸ HH.out, HK0.out⟩
          | true =>
            have HLT := Aside0.mk hlt
            have HEN := Aside0.mk (show dnL n (swp ys i j2) j2 = r by rw [← HE.out, dnL_y H1.out HCH.out hlt])
            clear hlt
            go_wp2_with (first | (go_at_call 45; (with_reducible refine (rless_ base b A c xs.length ys j2 j1 (by have := HYL.out; have := HN.out; have := HJN.out; omega) (by have := HYL.out; have := HN.out; have := HJ1.out; have := H1.out; omega) _ HH.out).mono ?_); rintro e wv ⟨rfl, hb⟩; rw [HL2.out]; replace HK0 := Aside0.mk (HK0.out.trans (HK.of_below hb b _) (At.refl _ _)); replace HH := Aside0.mk (Hp2.IsH.step HH.out hb); clear hb) | (go_at_call 45; (with_reducible refine (rless_ base b A c xs.length ys j2 i (by have := HYL.out; have := HN.out; have := HJN.out; omega) (by have := HYL.out; have := HN.out; have := H1.out; omega) _ HH.out).mono ?_); rintro e wv ⟨rfl, hb⟩; rw [HLT.out]; replace HK0 := Aside0.mk (HK0.out.trans (HK.of_below hb b _) (At.refl _ _)); replace HH := Aside0.mk (Hp2.IsH.step HH.out hb); clear hb) | (go_at_call 48; (with_reducible refine (swap_ base b A c xs.length ys i j2 (by have := HYL.out; have := HN.out; have := H1.out; omega) (by have := HYL.out; have := HN.out; have := HJN.out; omega) _ HH.out).mono ?_); rintro e wv ⟨rfl, hi, hk⟩; replace HK0 := Aside0.mk (HK0.out.trans hk (At.refl _ _)); have HH2 := Aside0.mk hi; clear hi hk))
            go_roundg (n - j2)
            case measure => have := HJI.out; have := HJN.out; have := HG.out; omega
            case rel => exact ⟨j2, _, rfl, ⟨by have := HJN.out; have := HN.out; omega⟩, ⟨Nat.le_refl _⟩, ⟨(swp_len _ _ _).trans HYL.out⟩, HEN, HH2, HK0⟩
        | false =>
          have HL2 := Aside0.mk hl2
          have HCH := Aside0.mk (show chi n ys i = j1 by unfold chi; rw [if_neg (fun hh => by rw [← hj1, ← hj2, hl2] at hh; exact absurd hh.2 (by decide)), hj1])
          have HJN := Aside0.mk (show j1 < n by have := H1.out; omega)
          have HJI := Aside0.mk (show i < j1 by omega)
          clear hj1 hj2 hb0 hb1 hb2 hl2
          cases hlt : lt3 (ri ys j1) (ri ys i) with
          | false =>
            have HLT := Aside0.mk hlt
            have HEN := Aside0.mk (show ys = r by rw [← HE.out, dnL_n H1.out HCH.out hlt])
            clear hlt
            go_wp2_with (first | (go_at_call 45; (with_reducible refine (rless_ base b A c xs.length ys j2 j1 (by have := HYL.out; have := HN.out; have := H2.out; have := HJ2.out; omega) (by have := HYL.out; have := HN.out; have := HJ1.out; have := H1.out; omega) _ HH.out).mono ?_); rintro e wv ⟨rfl, hb⟩; rw [HL2.out]; replace HK0 := Aside0.mk (HK0.out.trans (HK.of_below hb b _) (At.refl _ _)); replace HH := Aside0.mk (Hp2.IsH.step HH.out hb); clear hb) | (go_at_call 45; (with_reducible refine (rless_ base b A c xs.length ys j1 i (by have := HYL.out; have := HN.out; have := HJN.out; omega) (by have := HYL.out; have := HN.out; have := H1.out; omega) _ HH.out).mono ?_); rintro e wv ⟨rfl, hb⟩; rw [HLT.out]; replace HK0 := Aside0.mk (HK0.out.trans (HK.of_below hb b _) (At.refl _ _)); replace HH := Aside0.mk (Hp2.IsH.step HH.out hb); clear hb))
            first | go_ret | go_ret2
            exact ⟨_, rfl, HEN.out ▸ HH.out, HK0.out⟩
          | true =>
            have HLT := Aside0.mk hlt
            have HEN := Aside0.mk (show dnL n (swp ys i j1) j1 = r by rw [← HE.out, dnL_y H1.out HCH.out hlt])
            clear hlt
            go_wp2_with (first | (go_at_call 45; (with_reducible refine (rless_ base b A c xs.length ys j2 j1 (by have := HYL.out; have := HN.out; have := H2.out; have := HJ2.out; omega) (by have := HYL.out; have := HN.out; have := HJ1.out; have := H1.out; omega) _ HH.out).mono ?_); rintro e wv ⟨rfl, hb⟩; rw [HL2.out]; replace HK0 := Aside0.mk (HK0.out.trans (HK.of_below hb b _) (At.refl _ _)); replace HH := Aside0.mk (Hp2.IsH.step HH.out hb); clear hb) | (go_at_call 45; (with_reducible refine (rless_ base b A c xs.length ys j1 i (by have := HYL.out; have := HN.out; have := HJN.out; omega) (by have := HYL.out; have := HN.out; have := H1.out; omega) _ HH.out).mono ?_); rintro e wv ⟨rfl, hb⟩; rw [HLT.out]; replace HK0 := Aside0.mk (HK0.out.trans (HK.of_below hb b _) (At.refl _ _)); replace HH := Aside0.mk (Hp2.IsH.step HH.out hb); clear hb) | (go_at_call 48; (with_reducible refine (swap_ base b A c xs.length ys i j1 (by have := HYL.out; have := HN.out; have := H1.out; omega) (by have := HYL.out; have := HN.out; have := HJN.out; omega) _ HH.out).mono ?_); rintro e wv ⟨rfl, hi, hk⟩; replace HK0 := Aside0.mk (HK0.out.trans hk (At.refl _ _)); have HH2 := Aside0.mk hi; clear hi hk))
            go_roundg (n - j1)
            case measure => have := HJI.out; have := HJN.out; have := HG.out; omega
            case rel => exact ⟨j1, _, rfl, ⟨by have := HJN.out; have := HN.out; omega⟩, ⟨Nat.le_refl _⟩, ⟨(swp_len _ _ _).trans HYL.out⟩, HEN, HH2, HK0⟩
      · have HCH := Aside0.mk (show chi n ys i = j1 by unfold chi; rw [if_neg (fun hh => by have := hh.1; omega), hj1])
        have HJN := Aside0.mk (show j1 < n by have := H1.out; omega)
        have HJI := Aside0.mk (show i < j1 by omega)
        replace c1 := eq_false c1
        replace c2 := eq_false c2
        clear hj1 hj2 hb0 hb1 hb2
        cases hlt : lt3 (ri ys j1) (ri ys i) with
        | false =>
          have HLT := Aside0.mk hlt
          have HEN := Aside0.mk (show ys = r by rw [← HE.out, dnL_n H1.out HCH.out hlt])
          clear hlt
          go_wp2_with (first | (go_at_call 45; (with_reducible refine (rless_ base b A c xs.length ys j1 i (by have := HYL.out; have := HN.out; have := HJN.out; omega) (by have := HYL.out; have := HN.out; have := H1.out; omega) _ HH.out).mono ?_); rintro e wv ⟨rfl, hb⟩; rw [HLT.out]; replace HK0 := Aside0.mk (HK0.out.trans (HK.of_below hb b _) (At.refl _ _)); replace HH := Aside0.mk (Hp2.IsH.step HH.out hb); clear hb))
          first | go_ret | go_ret2
          exact ⟨_, rfl, HEN.out ▸ HH.out, HK0.out⟩
        | true =>
          have HLT := Aside0.mk hlt
          have HEN := Aside0.mk (show dnL n (swp ys i j1) j1 = r by rw [← HE.out, dnL_y H1.out HCH.out hlt])
          clear hlt
          go_wp2_with (first | (go_at_call 45; (with_reducible refine (rless_ base b A c xs.length ys j1 i (by have := HYL.out; have := HN.out; have := HJN.out; omega) (by have := HYL.out; have := HN.out; have := H1.out; omega) _ HH.out).mono ?_); rintro e wv ⟨rfl, hb⟩; rw [HLT.out]; replace HK0 := Aside0.mk (HK0.out.trans (HK.of_below hb b _) (At.refl _ _)); replace HH := Aside0.mk (Hp2.IsH.step HH.out hb); clear hb) | (go_at_call 48; (with_reducible refine (swap_ base b A c xs.length ys i j1 (by have := HYL.out; have := HN.out; have := H1.out; omega) (by have := HYL.out; have := HN.out; have := HJN.out; omega) _ HH.out).mono ?_); rintro e wv ⟨rfl, hi, hk⟩; replace HK0 := Aside0.mk (HK0.out.trans hk (At.refl _ _)); have HH2 := Aside0.mk hi; clear hi hk))
          go_roundg (n - j1)
          case measure => have := HJI.out; have := HJN.out; have := HG.out; omega
          case rel => exact ⟨j1, _, rfl, ⟨by have := HJN.out; have := HN.out; omega⟩, ⟨Nat.le_refl _⟩, ⟨(swp_len _ _ _).trans HYL.out⟩, HEN, HH2, HK0⟩
theorem down_' (base b : Nat) (A : Option Addr) (c l : Nat) (ys : List It) (i0 : Nat) (hl' : l = ys.length) (hn : l ≤ ys.length) (hi : i0 ≤ ys.length) (hl : ys.length ≤ 1000001) (w : World) (h : IsH w base b (.slice A l c) ys) : Calls Try.prog 24 #[.iface 51 (.pointer (some ⟨b, 0, none⟩)), .int .i64 (i0 : Int), .int .i64 (l : Int)] w fun e w' => ∃ q : Bool, e = .returned (.bool q) ∧ IsH w' base b (.slice A l c) (dnL l ys i0) ∧ HK w w' b (.slice A l c) := by
  subst hl'
  exact down_ base b A c ys.length ys i0 hn hi hl w h
set_option maxHeartbeats 8000000 in
set_option maxRecDepth 100000 in
theorem init_ (base b : Nat) (A : Option Addr) (c : Nat) (xs : List It) (hl : xs.length ≤ 1000001) (w : World) (h : IsH w base b (.slice A xs.length c) xs) : Calls Try.prog 18 #[.iface 51 (.pointer (some ⟨b, 0, none⟩))] w fun e w' => e = .returned (.tuple #[]) ∧ IsH w' base b (.slice A xs.length c) (iniL xs.length (xs.length / 2) xs) ∧ HK w w' b (.slice A xs.length c) := by
  obtain ⟨r, hr⟩ : ∃ r, iniL xs.length (xs.length / 2) xs = r := ⟨_, rfl⟩
  rw [hr]
  obtain ⟨d, hd⟩ : ∃ d, xs.length / 2 = d := ⟨_, rfl⟩
  rw [hd] at hr
  have HR := Aside0.mk hr
  have HD := Aside0.mk (show d ≤ xs.length by omega)
  have HL := Aside0.mk hl
  have HH := Aside0.mk h
  have HK0 := Aside0.mk (HK.refl w b (.slice A xs.length c))
  have HWA := Aside0.mk (show wrap64 (wrap64 ((xs.length : Int) / 2) - 1) = (d : Int) - 1 by unfold wrap64; omega)
  clear h hl hr hd
  go_enter Try.func18, Try.ntmps18
  go_wp2_with (first | (go_at_call 19; (with_reducible refine (len_ base b A c xs.length xs _ HH.out).mono ?_); rintro e wv ⟨rfl, hb⟩; replace HK0 := Aside0.mk (HK0.out.trans (HK.of_below hb b _) (At.refl _ _)); replace HH := Aside0.mk (Hp2.IsH.step HH.out hb); clear hb))
  go_loopg [3] d (fun kq v3 w' => ∃ (k : Nat) (ys : List It) (z : Int), v3 = .int .i64 z ∧ Aside0 (z = (k : Int) - 1) ∧ Aside0 (k ≤ xs.length) ∧ Aside0 (k ≤ kq) ∧ Aside0 (ys.length = xs.length) ∧ Aside0 (iniL xs.length k ys = r) ∧ Aside0 (IsH w' base b (.slice A xs.length c) ys) ∧ Aside0 (HK w w' b (.slice A xs.length c)))
  case atStart => exact ⟨d, xs, _, rfl, HWA, HD, ⟨Nat.le_refl _⟩, ⟨rfl⟩, HR, HH, HK0⟩
  case round =>
    clear HH HK0
    obtain ⟨k, ys, z, rfl, HZ, HJ, HG, HYL, HE, HH, HK0⟩ := hrel
    cases k with
    | zero =>
      have q1 : (0 ≤ z) = False := eq_false (by have := HZ.out; omega)
      have HEN := Aside0.mk (show ys = r from HE.out)
      go_wp2
      (try refine bodyPost_end (results_none rfl _ _ _) rfl ?_)
      exact ⟨rfl, HEN.out ▸ HH.out, HK0.out⟩
    | succ k =>
      have hz : z = (k : Int) := by have := HZ.out; omega
      subst hz
      have q1 : (0 ≤ (k : Int)) = True := eq_true (by omega)
      have hw5 : wrap64 ((k : Int) - 1) = (k : Int) - 1 := by have := HJ.out; have := HL.out; unfold wrap64; omega
      have hw6 : IntKind.i64.wrap ((k : Int) - 1) = (k : Int) - 1 := by rw [i64_w]; exact hw5
      have HYE := Aside0.mk (show iniL xs.length k (dnL xs.length ys k) = r from HE.out)
      clear HZ
      go_wp2_with (first | (go_at_call 24; (with_reducible refine (down_' base b A c xs.length ys k HYL.out.symm (by have := HYL.out; omega) (by have := HYL.out; have := HJ.out; omega) (by have := HYL.out; have := HL.out; omega) _ HH.out).mono ?_); rintro e wv ⟨qb, rfl, hi, hk⟩; replace HK0 := Aside0.mk (HK0.out.trans hk (At.refl _ _)); have HH2 := Aside0.mk hi; clear hi hk))
      go_roundg k
      case measure => have := HG.out; omega
      case rel => exact ⟨k, _, _, rfl, ⟨rfl⟩, ⟨by have := HJ.out; omega⟩, ⟨Nat.le_refl _⟩, ⟨(dnL_len _ _ _).trans HYL.out⟩, HYE, HH2, HK0⟩
end Go.Proofs.Ytojaflnejkbjnaa.Hp5
