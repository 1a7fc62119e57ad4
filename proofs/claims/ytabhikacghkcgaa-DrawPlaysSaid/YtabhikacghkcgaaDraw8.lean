/- The contracts of the chapter with their answers named part by part. -/
import Derived.Test.YtabhikacghkcgaaDraw7
namespace Go.Proofs.Ytabhikacghkcgaa.Draw8
open Go.RowKit Go.Proofs.YtabhikacghkcgaaW.PrintWords Go.Proofs.YtabhikacghkcgaaW.PrintLast Go.Proofs.YtabhikacghkcgaaW.PrintMore Go.Proofs.Ytabhikacghkcgaa.Ints Go.Proofs.Ytabhikacghkcgaa.Draw1 Go.Proofs.Ytabhikacghkcgaa.Draw2 Go.Proofs.Ytabhikacghkcgaa.Draw3 Go.Proofs.Ytabhikacghkcgaa.Draw4 Go.Proofs.Ytabhikacghkcgaa.Draw5 Go.Proofs.Ytabhikacghkcgaa.Draw6
set_option linter.unusedVariables false
theorem lead2 (A : Option Addr) (c : Nat) (l : List Int) (n : Int) (w : World) (hC : CI w A l) (hl : l.length ≤ 1000000) (ld : List Int) (b : Bool) (hr : leadL n l [] [] = (ld, b)) :
    Calls Try.prog 13 #[.int .i64 n, .slice A l.length c] w fun e w' => ∃ v0 : Value, e = .returned (.tuple #[v0, .bool b]) ∧ RI w' w.heap.size (fun _ => True) v0 ld ∧ Below w.heap.size w w' := lead_ A c l n w hC hl (ld, b) hr
theorem leadL_len (n : Int) (l : List Int) : ∀ pk out, (leadL n l pk out).1.length ≤ out.length + l.length := by
  induction l with
  | nil => intro pk out; simp [leadL]
  | cons x t ih =>
    intro pk out
    rw [leadL]
    split
    · simp
    · refine Nat.le_trans (ih _ _) ?_
      simp
      omega
theorem pick2 {base top g : Nat} {A : Option Addr} {c : Nat} {l : List Int} {at_ : Nat} {w : World} (n k : Int) (hd : IsD w base top g A c l at_) (htop : top ≤ w.heap.size) (hk : k ≤ 1000000 ∨ k > n) (pa : List Int) (ok : Bool) (pat : Nat) (hr : pickS l at_ n k = (pa, ok, pat)) :
    Calls Try.prog 7 #[.pointer (some ⟨g, 0, none⟩), .int .i64 n, .int .i64 k] w fun e w' => ∃ v0_ : Value, e = .returned (.tuple #[v0_, .bool ok]) ∧ RI w' w.heap.size (fun _ => True) v0_ pa ∧ IsD w' base top g A c l pat ∧ w.grownBy w' (some g) := pickM base top g A c l at_ n k w hd htop hk (pa, ok, pat) hr
theorem next2 {base top g : Nat} {A : Option Addr} {c : Nat} {l : List Int} {at_ : Nat} {w : World} (n : Int) (hd : IsD w base top g A c l at_) (x : Int) (is : Bool) (nat_ : Nat) (hr : nxt l at_ n = (x, is, nat_)) :
    Calls Try.prog 11 #[.pointer (some ⟨g, 0, none⟩), .int .i64 n] w fun e w' => e = .returned (.tuple #[.int .i64 x, .bool is]) ∧ IsD w' base top g A c l nat_ ∧ w.grownBy w' (some g) := next_ base top g A c l at_ n w hd (x, is, nat_) hr
theorem left2 {base top g : Nat} {A : Option Addr} {c : Nat} {l : List Int} {at_ : Nat} {w : World} (hd : IsD w base top g A c l at_) (m : Nat) (hm : l.length - at_ = m) :
    Calls Try.prog 10 #[.pointer (some ⟨g, 0, none⟩)] w fun e w' => e = .returned (.int .i64 (m : Int)) ∧ ∃ n, w' = w.drewN n := by
  subst hm
  exact left_ base top g A c l at_ w hd
theorem own_empty {w : World} {g : Nat} (base : Nat) (h : w.heap[g]? = some (.cells #[] 3 (0, 0))) (hb : base ≤ g) : RI w base (fun _ => True) (.slice (some ⟨g, 0, none⟩) 0 0) [] :=
  RI_own (own_of (cap := 0) h hb (Nat.le_refl _) (by unfold maxLen; omega) rfl rfl rfl) (fun _ _ => trivial)
theorem new2 (A : Option Addr) (c : Nat) (l : List Int) (n : Nat) (w : World) (hr : CI w A l) (hl : l.length < 1099511627776) (hn : n = l.length) :
    Calls Try.prog 6 #[.slice A n c] w fun e w' => ∃ g A' c', e = .returned (.pointer (some ⟨g, 0, none⟩)) ∧ IsD w' w.heap.size w'.heap.size g A' c' l 0 ∧ Below w.heap.size w w' := by
  subst hn
  exact new_ A c l w hr hl
theorem rnext2 {W0 : World} {A : Option Addr} {c : Nat} {l : List Int} (n : Int) {w : World} (hb0 : Below W0.heap.size W0 w) (hC : CI W0 A l) (hc : l.length ≤ c) (x : Int) (is : Bool) (rest : List Int) (hr : rnS l n = (x, is, rest)) :
    Calls Try.prog 12 #[.slice A l.length c, .int .i64 n] w fun e w' => ∃ A2 c2, e = .returned (.tuple #[.int .i64 x, .bool is, .slice A2 rest.length c2]) ∧ CI W0 A2 rest ∧ rest.length ≤ c2 ∧ Below w.heap.size w w' := rnext_ W0 A c l n w hb0 hC hc (x, is, rest) hr
theorem rpick2 {W0 : World} {A : Option Addr} {c : Nat} {l : List Int} (n k : Int) {w : World} (hb0 : Below W0.heap.size W0 w) (hC : CI W0 A l) (hc : l.length ≤ c) (hn : n ≤ 1000000) (pa : List Int) (ok : Bool) (rest : List Int) (hr : rpS l n k = (pa, ok, rest)) :
    Calls Try.prog 8 #[.slice A l.length c, .int .i64 n, .int .i64 k] w fun e w' => ∃ v0 A2 c2, e = .returned (.tuple #[v0, .bool ok, .slice A2 rest.length c2]) ∧ RI w' w.heap.size (fun _ => True) v0 pa ∧ CI W0 A2 rest ∧ rest.length ≤ c2 ∧ Below w.heap.size w w' := by
  unfold rpS at hr
  by_cases h : n < 0 ∨ k < 0 ∨ k > n
  · rw [if_pos h] at hr
    obtain ⟨rfl, rfl, rfl⟩ : pa = [] ∧ ok = false ∧ rest = l := by
      simp only [Prod.mk.injEq] at hr
      exact ⟨hr.1.symm, hr.2.1.symm, hr.2.2.symm⟩
    exact rpick_a W0 A c rest n k w hb0 hC hc (by omega)
  rw [if_neg h] at hr
  by_cases h4 : (l.length : Int) < k
  · rw [if_pos h4] at hr
    obtain ⟨rfl, rfl, rfl⟩ : pa = [] ∧ ok = false ∧ rest = [] := by
      simp only [Prod.mk.injEq] at hr
      exact ⟨hr.1.symm, hr.2.1.symm, hr.2.2.symm⟩
    exact rpick_b W0 A c l n k w hb0 hC hc (by omega) (by omega) (by omega) h4
  rw [if_neg h4] at hr
  simp only [Prod.mk.injEq] at hr
  obtain ⟨h1, rfl, rfl⟩ := hr
  obtain ⟨K, rfl⟩ : ∃ K : Nat, k = (K : Int) := ⟨k.toNat, by omega⟩
  obtain ⟨N, rfl⟩ : ∃ N : Nat, n = (N : Int) := ⟨n.toNat, by omega⟩
  rw [Int.toNat_natCast, Int.toNat_natCast] at h1
  rw [Int.toNat_natCast]
  exact rpick_c W0 A c l N K w hb0 hC hc (by omega) (by omega) (by omega) pa h1
end Go.Proofs.Ytabhikacghkcgaa.Draw8
