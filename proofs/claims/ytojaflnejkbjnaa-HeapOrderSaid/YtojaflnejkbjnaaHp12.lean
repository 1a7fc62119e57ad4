/- Small facts for the laws over a heap. -/
import Derived.Test.YtojaflnejkbjnaaHp11
namespace Go.Proofs.Ytojaflnejkbjnaa.Hp12
open Go.RowKit Go.Proofs.YtojaflnejkbjnaaW.PrintWords Go.Proofs.YtojaflnejkbjnaaW.PrintLast Go.Proofs.YtojaflnejkbjnaaW.PrintMore Go.Proofs.Ytojaflnejkbjnaa.Hp1 Go.Proofs.Ytojaflnejkbjnaa.Hp2 Go.Proofs.Ytojaflnejkbjnaa.Hp3 Go.Proofs.Ytojaflnejkbjnaa.Hp4 Go.Proofs.Ytojaflnejkbjnaa.Hp5 Go.Proofs.Ytojaflnejkbjnaa.Hp6 Go.Proofs.Ytojaflnejkbjnaa.Hp7 Go.Proofs.Ytojaflnejkbjnaa.Hp8 Go.Proofs.Ytojaflnejkbjnaa.Hp9 Go.Proofs.Ytojaflnejkbjnaa.Hp10 Go.Proofs.Ytojaflnejkbjnaa.Hp11
attribute [local go_sem] max2_int min2_int max_two min_two max_three min_three max_four min_four
set_option linter.unusedVariables false
set_option linter.unusedSimpArgs false
theorem setR2 {w : World} {base b g : Nat} {v : Value} {xs : List It} (h : IsH w base b v xs) (hb : g ≠ b) (hn : v.ownBlock ≠ some g) (cs : Array Value) : IsH (w.setRow g cs) base b v xs :=
  ⟨h.1, (setRow_other _ _ _ _ (fun e => hb e.symm)).trans h.2.1, Kd.R_step h.2.2 (fun k hk _ => setRow_other _ _ _ _ (fun e => hn (by rw [← hk, e])))⟩
theorem lowerH {w : World} {base base' b : Nat} {v : Value} {xs : List It} (h : IsH w base b v xs) (hb : base' ≤ base) : IsH w base' b v xs :=
  ⟨Nat.le_trans hb h.1, h.2.1, Kd.R_lower h.2.2 hb⟩
def dA (A : Option Addr) (c : Nat) : Option Addr := if c = 1 then A else A.map (·.add (1 * 3))
theorem sl1 (w : World) (A : Option Addr) (n c : Nat) (h : 1 ≤ n) : (Instr.slice 22 (.slice A n c) (some (.int .i64 1)) none none).run Try.prog w = .ok (.slice (dA A c) (n - 1) (c - 1)) w := by
  have h := run_slice_l (P := Try.prog) w 22 A n c Try.underlying22 .i64 1 (by omega) (by omega)
  rw [h, show (sizeOf (Try.prog.elem 22)).run Try.prog w = .ok 3 w from Try.sizeOf32 w]
  simp [Try.sizeOf32, Result.andThen, sliced, dA]
theorem XA.dropA {w : World} {A : Option Addr} {p : It} {xs : List It} {c : Nat} (h : XA w A (p :: xs)) (hc : (p :: xs).length ≤ c) : XA w (dA A c) xs := Hp11.XA.drop1 h hc
theorem XA.at0 {w : World} {ad : Addr} {xs : List It} {p0 p1 p2 : Int} (h : XA w (some ad) xs) (hx : 0 < xs.length ∧ ri xs 0 = (p0, p1, p2)) : w.cell? ad = some (.int .i64 p0) ∧ w.cell? ⟨ad.block, ad.off + 1, none⟩ = some (.int .i64 p1) ∧ w.cell? ⟨ad.block, ad.off + 2, none⟩ = some (.int .i64 p2) := by
  obtain ⟨a, e, h1, h2, h3⟩ := at_H h.1 0 hx.1
  cases e
  rw [hx.2] at h1 h2 h3
  rw [Nat.zero_mul] at h1 h2 h3
  rw [show ad.add 0 = ad by cases ad; rfl] at h1 h2 h3
  exact ⟨h1, h2, h3⟩
theorem XA.some_ {w : World} {A : Option Addr} {xs : List It} (h : XA w A xs) (hp : 0 < xs.length) : ∃ ad, A = some ad := by
  obtain ⟨ad, e, _⟩ := h.1.2.2 hp
  exact ⟨ad, e⟩
theorem ne33 (w : World) (x0 x1 x2 : Int) : (binOp .neq 33 (.agg #[.int .i64 x0, .int .i64 x1, .int .i64 x2]) (.agg #[.int .i64 x0, .int .i64 x1, .int .i64 x2])).run Try.prog w = .ok (.bool false) w := by
  rw [neq33]
  simp
theorem ne32 (w : World) (x0 x1 x2 : Int) : (binOp .neq 32 (.agg #[.int .i64 x0, .int .i64 x1, .int .i64 x2]) (.agg #[.int .i64 x0, .int .i64 x1, .int .i64 x2])).run Try.prog w = .ok (.bool false) w := by
  rw [neq32]
  simp
theorem ins_len (x : It) (l : List It) : (ins x l).length = l.length + 1 := by
  rw [(ins_perm x l).length_eq, List.length_cons]
end Go.Proofs.Ytojaflnejkbjnaa.Hp12
