/- slices.Equal at rows of whole numbers; move.Same over lists of routes. -/
import Derived.Test.YtcofibbgdnbejaaMv9
namespace Go.Proofs.Ytcofibbgdnbejaa.Mv10
open Go.RowKit Go.Proofs.YtcofibbgdnbejaaW.PrintWords Go.Proofs.YtcofibbgdnbejaaW.PrintLast Go.Proofs.YtcofibbgdnbejaaW.PrintMore Go.Proofs.Ytcofibbgdnbejaa.Ints Go.Proofs.Ytcofibbgdnbejaa.Mv1 Go.Proofs.Ytcofibbgdnbejaa.Mv2
set_option linter.unusedVariables false
set_option linter.unusedSimpArgs false
theorem drop_eq {x y : List Int} {i : Nat} (hx : i < x.length) (hy : i < y.length) : (x.drop i = y.drop i) ↔ (rd x (i : Int) = rd y (i : Int) ∧ x.drop (i + 1) = y.drop (i + 1)) := by
  rw [List.drop_eq_getElem_cons hx, List.drop_eq_getElem_cons hy, List.cons.injEq]
  simp [rd, hx, hy]
set_option maxHeartbeats 8000000 in
set_option maxRecDepth 100000 in
theorem eq_ne (A : Option Addr) (c : Nat) (x : List Int) (B : Option Addr) (d : Nat) (y : List Int) (w : World) (hl : ¬ x.length = y.length) :
    Calls Try.prog 26 #[.slice A x.length c, .slice B y.length d] w fun e w' => e = .returned (.bool (decide (x = y))) ∧ Below w.heap.size w w' := by
  have e : decide (x = y) = false := decide_eq_false (fun e => hl (by rw [e]))
  rw [e]
  have p1 : ((x.length : Int) = (y.length : Int)) = False := eq_false (by omega)
  have p2 : ((x.length : Int) == (y.length : Int)) = false := beq_eq_false_iff_ne.mpr (by omega)
  have p3 : ((x.length : Int) != (y.length : Int)) = true := by rw [bne, p2]; rfl
  clear hl e
  go_enter Try.func26, Try.ntmps26
  go_wp2
  first | go_ret | go_ret2
  exact ⟨rfl, Below.refl _ _⟩
set_option maxHeartbeats 8000000 in
set_option maxRecDepth 100000 in
theorem eq_len (A : Option Addr) (c : Nat) (x : List Int) (B : Option Addr) (d : Nat) (y : List Int) (w : World) (hx : CI w A x) (hy : CI w B y) (hl : x.length = y.length) :
    Calls Try.prog 26 #[.slice A x.length c, .slice B y.length d] w fun e w' => e = .returned (.bool (decide (x = y))) ∧ Below w.heap.size w w' := by
  have HX := Aside0.mk hx
  have HY := Aside0.mk hy
  have HL := Aside0.mk hl
  obtain ⟨n, hn⟩ : ∃ n, n = x.length := ⟨_, rfl⟩
  have HN := Aside0.mk hn
  have HM := Aside0.mk (show n ≤ 9223372036854775807 by rw [hn]; exact Kd.C_max hx)
  have HB := Aside0.mk (Below.refl w.heap.size w)
  rw [← hl, ← hn]
  obtain ⟨r, hr⟩ : ∃ r, decide (x = y) = r := ⟨_, rfl⟩
  have HR := Aside0.mk hr
  rw [hr]
  clear hr
  have p2 : ((n : Int) == (n : Int)) = true := beq_self_eq_true _
  have p3 : ((n : Int) != (n : Int)) = false := by rw [bne, p2]; rfl
  clear hx hy hl hn
  go_enter Try.func26, Try.ntmps26
  go_wp2
  go_loopg [5, 13] n (fun kq v5 v13 w' => ∃ i : Nat, v13 = .int .i64 (i : Int) ∧ Aside0 (i ≤ n) ∧ Aside0 (n - i ≤ kq) ∧ Aside0 ((x = y) ↔ x.drop i = y.drop i) ∧ Aside0 (Below w.heap.size w w'))
  case atStart => exact ⟨0, rfl, ⟨Nat.zero_le _⟩, ⟨by omega⟩, ⟨by simp⟩, HB⟩
  case round =>
    clear HB
    obtain ⟨i, rfl, HJ, HG, HE, HB⟩ := hrel
    by_cases c1 : (i : Int) < (n : Int)
    · have HIN := Aside0.mk (show i < n by omega)
      obtain ⟨a1, rfl, h1⟩ := Kd.at_int (Kd.C_below HX.out HB.out) (i : Int) (by omega) (by have := HN.out; omega)
      obtain ⟨a2, rfl, h2⟩ := Kd.at_int (Kd.C_below HY.out HB.out) (i : Int) (by omega) (by have := HN.out; have := HL.out; omega)
      rw [Int.toNat_natCast] at h1 h2
      have hde := drop_eq (x := x) (y := y) (i := i) (by have := HN.out; omega) (by have := HN.out; have := HL.out; omega)
      obtain ⟨u, hu⟩ : ∃ u, rd x (i : Int) = u := ⟨_, rfl⟩
      obtain ⟨v, hv⟩ : ∃ v, rd y (i : Int) = v := ⟨_, rfl⟩
      rw [hu] at h1 hde
      rw [hv] at h2 hde
      have HDE := Aside0.mk hde
      have HW := Aside0.mk (show wrap64 ((i : Int) + 1) = ((i + 1 : Nat) : Int) by have := HM.out; unfold wrap64; omega)
      have p0 : (0 ≤ (i : Int)) = True := eq_true (by omega)
      replace c1 := eq_true c1
      clear hu hv hde
      by_cases huv : u = v
      · have q1 : (u == v) = true := beq_iff_eq.mpr huv
        have q2 : (u != v) = false := by rw [bne, q1]; rfl
        have HU := Aside0.mk huv
        clear huv
        go_wp2
        go_quiet (fail)
        go_wp2
        go_roundg (n - (i + 1))
        case measure => have := HJ.out; have := HG.out; have := HIN.out; omega
        case rel => exact ⟨i + 1, by first | rfl | rw [HW.out], ⟨by have := HIN.out; omega⟩, ⟨by omega⟩, ⟨HE.out.trans (HDE.out.trans ⟨fun h => h.2, fun h => ⟨HU.out, h⟩⟩)⟩, ⟨pw_below_drewN HB.out _⟩⟩
      · have q1 : (u == v) = false := beq_eq_false_iff_ne.mpr huv
        have q2 : (u != v) = true := by rw [bne, q1]; rfl
        have e : false = r := by rw [← HR.out]; exact (decide_eq_false (fun h => huv (HDE.out.1 (HE.out.1 h)).1)).symm
        clear huv
        subst e
        go_wp2
        go_quiet (fail)
        go_wp2
        first | go_ret | go_ret2
        exact ⟨rfl, pw_below_drewN HB.out _⟩
    · obtain rfl : i = n := by have := HJ.out; omega
      replace c1 := eq_false c1
      have e : true = r := by rw [← HR.out]; exact (decide_eq_true (HE.out.2 (by rw [List.drop_of_length_le (by have := HN.out; omega), List.drop_of_length_le (by have := HN.out; have := HL.out; omega)]))).symm
      subst e
      go_wp2
      first | go_ret | go_ret2
      exact ⟨rfl, HB.out⟩
theorem eq_ (A : Option Addr) (c : Nat) (x : List Int) (B : Option Addr) (d : Nat) (y : List Int) (w : World) (hx : CI w A x) (hy : CI w B y) :
    Calls Try.prog 26 #[.slice A x.length c, .slice B y.length d] w fun e w' => e = .returned (.bool (decide (x = y))) ∧ Below w.heap.size w w' := by
  by_cases hl : x.length = y.length
  · exact eq_len A c x B d y w hx hy hl
  · exact eq_ne A c x B d y w hl
end Go.Proofs.Ytcofibbgdnbejaa.Mv10
