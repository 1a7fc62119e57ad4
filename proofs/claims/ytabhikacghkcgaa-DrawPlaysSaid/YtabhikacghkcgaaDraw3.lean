/- The draws of a script, in memory: what Pick and draw.Lead do, for every Draws and all numbers (fewer than 1,000,000 picked); and what the reference's Next and Pick answer of a row that came in. -/
import Derived.Test.YtabhikacghkcgaaDraw2
namespace Go.Proofs.Ytabhikacghkcgaa.Draw3
open Go.RowKit Go.Proofs.YtabhikacghkcgaaW.PrintWords Go.Proofs.YtabhikacghkcgaaW.PrintLast Go.Proofs.YtabhikacghkcgaaW.PrintMore Go.Proofs.Ytabhikacghkcgaa.Ints Go.Proofs.Ytabhikacghkcgaa.Draw1 Go.Proofs.Ytabhikacghkcgaa.Draw2
attribute [local go_sem] max2_int min2_int max_two min_two max_three min_three max_four min_four
set_option linter.unusedVariables false
set_option linter.unusedSimpArgs false
def pickS (l : List Int) (at_ : Nat) (n k : Int) : List Int × Bool × Nat := if n < 0 ∨ k < 0 ∨ k > n then ([], false, at_) else pickL l n k.toNat 0 at_ [] []
theorem pick_no (base top g : Nat) (A : Option Addr) (c : Nat) (l : List Int) (at_ : Nat) (n k : Int) (w : World) (hd : IsD w base top g A c l at_) (h : n < 0 ∨ (¬ n < 0 ∧ k < 0) ∨ (¬ n < 0 ∧ ¬ k < 0 ∧ k > n)) :
    Calls Try.prog 7 #[.pointer (some ⟨g, 0, none⟩), .int .i64 n, .int .i64 k] w fun e w' => ∃ v0_ : Value, e = .returned (.tuple #[v0_, .bool false]) ∧ RI w' w.heap.size (fun _ => True) v0_ [] ∧ IsD w' base top g A c l at_ ∧ w.grownBy w' (some g) := by
  have HD := Aside0.mk hd
  clear hd
  rcases h with h1 | ⟨h1, h2⟩ | ⟨h1, h2, h3⟩
  · replace h1 := eq_true h1
    go_enter Try.func7, Try.ntmps7
    go_wp2
    first | go_ret | go_ret2
    exact ⟨_, rfl, Kd.R_nil _ _ _ _ _, HD.out, ⟨rfl, rfl, rfl, Nat.le_refl _, fun _ _ _ => rfl⟩⟩
  · replace h1 := eq_false h1
    replace h2 := eq_true h2
    go_enter Try.func7, Try.ntmps7
    go_wp2
    first | go_ret | go_ret2
    exact ⟨_, rfl, Kd.R_nil _ _ _ _ _, HD.out, ⟨rfl, rfl, rfl, Nat.le_refl _, fun _ _ _ => rfl⟩⟩
  · replace h1 := eq_false h1
    replace h2 := eq_false h2
    replace h3 := eq_true h3
    go_enter Try.func7, Try.ntmps7
    go_wp2
    first | go_ret | go_ret2
    exact ⟨_, rfl, Kd.R_nil _ _ _ _ _, HD.out, ⟨rfl, rfl, rfl, Nat.le_refl _, fun _ _ _ => rfl⟩⟩
set_option maxHeartbeats 8000000 in
set_option maxRecDepth 100000 in
theorem pick_yes (base top g : Nat) (A : Option Addr) (c : Nat) (l : List Int) (at_ : Nat) (n k : Int) (w : World) (hd : IsD w base top g A c l at_) (htop : top ≤ w.heap.size) (h1 : ¬ n < 0) (h2 : ¬ k < 0) (h3 : ¬ k > n) (hk : k ≤ 1000000) (r : List Int × Bool × Nat) (hr : pickL l n k.toNat 0 at_ [] [] = r) :
    Calls Try.prog 7 #[.pointer (some ⟨g, 0, none⟩), .int .i64 n, .int .i64 k] w fun e w' => ∃ v0_ : Value, e = .returned (.tuple #[v0_, .bool r.2.1]) ∧ RI w' w.heap.size (fun _ => True) v0_ r.1 ∧ IsD w' base top g A c l r.2.2 ∧ w.grownBy w' (some g) := by
  obtain ⟨d, rfl⟩ : ∃ d : Nat, k = (d : Int) := ⟨k.toNat, by omega⟩
  rw [Int.toNat_natCast] at hr
  have HP := Aside0.mk (pick_ base top g A c l at_ n d w hd htop (by omega) r hr)
  clear hd htop hr hk
  replace h1 := eq_false h1
  replace h2 := eq_false h2
  replace h3 := eq_false h3
  go_enter Try.func7, Try.ntmps7
  go_wp2_with (go_at_call 16; with_reducible refine HP.out.mono ?_; rintro e wv ⟨v0, rfl, ho, hd, hg⟩; have HO := Aside0.mk ho; have HD := Aside0.mk hd; have HG := Aside0.mk hg; clear ho hd hg HP)
  first | go_ret | go_ret2
  exact ⟨_, rfl, HO.out, HD.out, HG.out⟩
theorem pickM (base top g : Nat) (A : Option Addr) (c : Nat) (l : List Int) (at_ : Nat) (n k : Int) (w : World) (hd : IsD w base top g A c l at_) (htop : top ≤ w.heap.size) (hk : k ≤ 1000000 ∨ k > n) (r : List Int × Bool × Nat) (hr : pickS l at_ n k = r) :
    Calls Try.prog 7 #[.pointer (some ⟨g, 0, none⟩), .int .i64 n, .int .i64 k] w fun e w' => ∃ v0_ : Value, e = .returned (.tuple #[v0_, .bool r.2.1]) ∧ RI w' w.heap.size (fun _ => True) v0_ r.1 ∧ IsD w' base top g A c l r.2.2 ∧ w.grownBy w' (some g) := by
  subst hr
  unfold pickS
  by_cases h : n < 0 ∨ k < 0 ∨ k > n
  · rw [if_pos h]
    exact pick_no base top g A c l at_ n k w hd (by omega)
  · rw [if_neg h]
    exact pick_yes base top g A c l at_ n k w hd htop (by omega) (by omega) (by omega) (by omega) _ rfl
end Go.Proofs.Ytabhikacghkcgaa.Draw3
