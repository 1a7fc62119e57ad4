/- Encode's inner function: a day's changes are laid. -/
import Derived.Test.YtjpnfhnmcgejhaaDc1
namespace Go.Proofs.Ytjpnfhnmcgejhaa.Dc2
open Go.RowKit Go.Proofs.YtjpnfhnmcgejhaaW.PrintWords Go.Proofs.YtjpnfhnmcgejhaaW.PrintLast Go.Proofs.YtjpnfhnmcgejhaaW.PrintMore Go.Proofs.Ytjpnfhnmcgejhaa.Dc1
attribute [local go_sem] max2_int min2_int max_two min_two max_three min_three max_four min_four
set_option linter.unusedVariables false
set_option linter.unusedSimpArgs false
/-- The value of w.put, w at block g. -/
abbrev FV (g : Nat) : Value := .func (.func 16) #[.pointer (some ⟨g, 0, none⟩)] #[]
def IsF (w : World) (g7 g : Nat) : Prop := w.heap[g7]? = some (.cells #[FV g] 46 (0, 0)) ∧ g7 ≠ g
theorem IsF.wk {w w' : World} {g7 g : Nat} (h : IsF w g7 g) (hk : WK w w' g) : IsF w' g7 g := ⟨hk.blk h.1 h.2, h.2⟩
theorem IsF.cell {w : World} {g7 g : Nat} (h : IsF w g7 g) : w.cell? ⟨g7, 0, none⟩ = some (FV g) := (blk_cell h.1 0).trans rfl
/-- Numbers that stand in a block that is not the writer's. -/
def RA (w : World) (g : Nat) (A : Option Addr) (xs : List Int) : Prop := Kd.C (Kd.int .i64) w A xs.length xs ∧ ∀ ad, A = some ad → 0 < xs.length → ad.block ≠ g ∧ ad.block < w.heap.size
theorem add_block (ad : Addr) (j : Nat) : (ad.add j).block = ad.block := by
  unfold Addr.add
  split <;> rfl
theorem RA.wk {w w1 : World} {g : Nat} {A : Option Addr} {xs : List Int} (h : RA w g A xs) (hk : WK w w1 g) : RA w1 g A xs := by
  obtain ⟨⟨h1, h2, h3⟩, h4⟩ := h
  refine ⟨⟨h1, h2, fun hp => ?_⟩, fun ad e hp => ⟨(h4 ad e hp).1, Nat.lt_of_lt_of_le (h4 ad e hp).2 hk.size⟩⟩
  obtain ⟨ad, e, hc⟩ := h3 hp
  refine ⟨ad, e, fun j p hj => ?_⟩
  obtain ⟨c, hs, hr, hcell⟩ := hc j p hj
  refine ⟨c, hs, hr, fun i u hu => ?_⟩
  have e2 : w1.cell? (ad.add (j * (Kd.int .i64).sz + i)) = w.cell? (ad.add (j * (Kd.int .i64).sz + i)) := by
    unfold World.cell?
    rw [add_block, hk.block _ (h4 ad e hp).2 (h4 ad e hp).1]
  exact e2.trans (hcell i u hu)
def catB (out : ByteArray) (xs : List Int) : ByteArray := xs.foldl (fun o x => o ++ putB x) out
def dayB (out : ByteArray) (xs : List Int) : ByteArray := catB (out ++ putB xs.length) xs
theorem catB_size (xs : List Int) : ∀ out, (catB out xs).size = out.size + 2 * xs.length := by
  induction xs with
  | nil => intro out; simp [catB]
  | cons x t ih =>
    intro out
    show (catB (out ++ putB x) t).size = _
    rw [ih, ByteArray.size_append, putB_size, List.length_cons]
    omega
theorem dayB_size (out : ByteArray) (xs : List Int) : (dayB out xs).size = out.size + 2 + 2 * xs.length := by
  unfold dayB
  rw [catB_size, ByteArray.size_append, putB_size]
theorem catB_take {out : ByteArray} {xs : List Int} {j : Nat} (h : j < xs.length) : catB out (xs.take (j + 1)) = catB out (xs.take j) ++ putB (rd xs (j : Int)) := by
  rw [List.take_succ_eq_append_getElem h]
  unfold catB
  rw [List.foldl_append]
  simp [rd, h]
set_option maxHeartbeats 8000000 in
set_option maxRecDepth 100000 in
theorem clo_ (g g7 : Nat) (out : ByteArray) (A : Option Addr) (n c : Nat) (xs : List Int) (hn : n = xs.length) (hx : ∀ x ∈ xs, 0 ≤ x ∧ x ≤ 65535) (hl : xs.length ≤ 65535) (hs : out.size ≤ 100000000) (w : World) (hW : IsW w g out) (hF : IsF w g7 g) (hR : RA w g A xs) : Calls Try.prog 18 #[.slice A n c, .pointer (some ⟨g7, 0, none⟩)] w fun e w' => e = .returned (.tuple #[]) ∧ IsW w' g (dayB out xs) ∧ WK w w' g := by
  have HN := Aside0.mk hn
  have HX := Aside0.mk hx
  have HL := Aside0.mk hl
  have HS := Aside0.mk hs
  have HW := Aside0.mk hW
  have HF := Aside0.mk hF
  have HR := Aside0.mk hR
  have HK := Aside0.mk (WK.refl w g)
  have hc7 := hF.cell
  clear hn hx hl hs hW hF hR
  go_enter Try.func18, Try.ntmps18
  go_wp2_with (first | (go_at_call 16; (with_reducible refine (put_ g out (n : Int) (by omega) (by have := HN.out; have := HL.out; omega) (by have := HS.out; omega) _ HW.out).mono ?_); rintro e wv ⟨rfl, hw, hk⟩; replace HK := Aside0.mk (HK.out.trans hk); replace HF := Aside0.mk (IsF.wk HF.out hk); replace HR := Aside0.mk (RA.wk HR.out hk); replace HW := Aside0.mk hw; clear hw hk hc7))
  go_loopg [11] n (fun kq v11 w' => ∃ j : Nat, v11 = .int .i64 (j : Int) ∧ Aside0 (j ≤ n) ∧ Aside0 (n - j ≤ kq) ∧ Aside0 (IsW w' g (catB (out ++ putB (n : Int)) (xs.take j))) ∧ Aside0 (WK w w' g) ∧ Aside0 (IsF w' g7 g) ∧ Aside0 (RA w' g A xs))
  case atStart => exact ⟨0, rfl, ⟨Nat.zero_le _⟩, ⟨by omega⟩, HW, HK, HF, HR⟩
  case round =>
    clear HW HK HF HR
    obtain ⟨j, rfl, HJ, HKQ, HW, HK, HF, HR⟩ := hrel
    by_cases cj : j < n
    · have hjl : j < xs.length := by have := HN.out; omega
      obtain ⟨ad, e, hx0⟩ := Kd.at_int HR.out.1 (j : Int) (by omega) (by omega)
      rw [Int.toNat_natCast] at hx0
      subst e
      have HXB := Aside0.mk (show 0 ≤ rd xs (j : Int) ∧ rd xs (j : Int) ≤ 65535 by
        have : rd xs (j : Int) = xs[j] := by simp [rd, hjl]
        rw [this]
        exact HX.out _ (List.getElem_mem _))
      have HZ := Aside0.mk (show (catB (out ++ putB (n : Int)) (xs.take j)).size ≤ 1000000000 by
        rw [catB_size, ByteArray.size_append, putB_size, List.length_take]
        have := HS.out
        have := HL.out
        omega)
      have HT := Aside0.mk (catB_take (out := out ++ putB (n : Int)) hjl)
      have HIN := Aside0.mk cj
      have p1 : (0 ≤ (j : Int)) = True := eq_true (by omega)
      have p2 : ((j : Int) < (n : Int)) = True := eq_true (by omega)
      have HW2 := Aside0.mk (show wrap64 ((j : Int) + 1) = ((j + 1 : Nat) : Int) by have := HL.out; unfold wrap64; omega)
      have hc7 := IsF.cell HF.out
      generalize rd xs (j : Int) = x at *
      clear cj hjl
      go_wp2_with (first | (go_at_call 16; (with_reducible refine (put_ g _ x HXB.out.1 HXB.out.2 HZ.out _ HW.out).mono ?_); rintro e wv ⟨rfl, hw, hk⟩; rw [← HT.out] at hw; replace HK := Aside0.mk (HK.out.trans hk); replace HF := Aside0.mk (IsF.wk HF.out hk); replace HR := Aside0.mk (RA.wk HR.out hk); replace HW := Aside0.mk hw; clear hw hk hc7 hx0))
      go_roundg (n - (j + 1))
      case measure => have := HKQ.out; have := HIN.out; omega
      case rel => exact ⟨j + 1, by first | rfl | rw [HW2.out], ⟨by have := HIN.out; omega⟩, ⟨by omega⟩, HW, HK, HF, HR⟩
    · obtain rfl : j = n := by have := HJ.out; omega
      have hw := HW.out
      rw [List.take_of_length_le (by have := HN.out; omega)] at hw
      have HWZ := Aside0.mk hw
      clear hw cj
      go_wp2
      (try refine bodyPost_end (results_none rfl _ _ _) rfl ?_)
      refine ⟨rfl, ?_, HK.out⟩
      unfold dayB
      rw [← HN.out]
      exact HWZ.out
end Go.Proofs.Ytjpnfhnmcgejhaa.Dc2
