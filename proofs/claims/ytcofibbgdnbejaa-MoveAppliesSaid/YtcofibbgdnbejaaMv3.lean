/- What the appliers of moves do to routes in memory of their own. -/
import Derived.Test.YtcofibbgdnbejaaMv2
namespace Go.Proofs.Ytcofibbgdnbejaa.Mv3
open Go.RowKit Go.Proofs.YtcofibbgdnbejaaW.PrintWords Go.Proofs.YtcofibbgdnbejaaW.PrintLast Go.Proofs.YtcofibbgdnbejaaW.PrintMore Go.Proofs.Ytcofibbgdnbejaa.Ints Go.Proofs.Ytcofibbgdnbejaa.Mv1 Go.Proofs.Ytcofibbgdnbejaa.Mv2
set_option linter.unusedVariables false
set_option linter.unusedSimpArgs false
def turnS (rs : List Rt) (a b i j : Int) : Bool × List Rt :=
  if a = b ∧ 0 ≤ i ∧ i < j ∧ j < ((st rs a.toNat).length : Int) then (true, rs.set a.toNat (tr rs a.toNat, revS (st rs a.toNat) i.toNat j.toNat)) else (false, rs)
theorem sl_mid (w : World) (g n c : Nat) (i j : Nat) (hij : i ≤ j) (hj : j ≤ n) (hc : n ≤ c) (hi : i < c) : (Instr.slice 33 (.slice (some ⟨g, 0, none⟩) n c) (some (.int .i64 (i : Int))) (some (.int .i64 (j : Int))) none).run Try.prog w = .ok (.slice (some ⟨g, i, none⟩) (j - i) (c - i)) w := by
  have h := run_slice_lh (P := Try.prog) w 33 (some ⟨g, 0, none⟩) n c Try.underlying33 .i64 .i64 (i : Int) (j : Int) (by omega) (by omega) (by omega)
  rw [h, show (sizeOf (Try.prog.elem 33)).run Try.prog w = .ok 1 w from Try.sizeOf3 w]
  simp [Result.andThen, sliced, show ¬ c = i by omega, Addr.add]
  intro e
  exact e.symm
section
variable {w w1 : World} {base g cap : Nat} {rs : List Rt} {svs : List (Option Addr × Nat)}
theorem RT.vl_ (rs : List Rt) (svs : List (Option Addr × Nat)) (j : Nat) (xs : List Int) (hx : st rs j = xs) : ∃ A c, vl rs svs j = .slice A xs.length c := by
  subst hx
  exact ⟨_, _, rfl⟩
theorem RT.form (h : RT w base g cap rs svs) {j : Nat} (hj : j < rs.length) {xs : List Int} (hx : st rs j = xs) (hp : 0 < xs.length) : ∃ b c, vl rs svs j = .slice (some ⟨b, 0, none⟩) xs.length c ∧ base ≤ b ∧ b < w.heap.size := by
  subst hx
  obtain ⟨b, c, hv, h1, h2, _⟩ := Kd.R_form (RT.stops h hj) hp
  exact ⟨b, c, hv, h1, h2⟩
/-- The stops of route j change where they lie. -/
theorem RT.inplace (h : RT w base g cap rs svs) {j : Nat} (hj : j < rs.length) {s1 : List Int} (hl : s1.length = (st rs j).length) (hg : w.grownBy w1 (vl rs svs j).ownBlock) (hr : RI w1 base (fun _ => True) (vl rs svs j) s1) : RT w1 base g cap (rs.set j (tr rs j, s1)) svs := by
  have hne := RT.own_ne h hj
  obtain ⟨h1, h2, ⟨cur, hgc, h3, h4, h5, h6⟩, h7, h8⟩ := h
  have hgc1 := blk_grown hgc hg (Ne.symm hne)
  have t_eq : ∀ i, tr (rs.set j (tr rs j, s1)) i = tr rs i := by
    intro i
    by_cases e : i = j
    · subst e; unfold tr; rw [Mv2.getD_set_self _ _ _ _ hj]
    · unfold tr; rw [Mv2.getD_set_ne _ _ _ _ _ e]
  have s_self : st (rs.set j (tr rs j, s1)) j = s1 := by unfold st; rw [Mv2.getD_set_self _ _ _ _ hj]
  have s_ne : ∀ i, i ≠ j → st (rs.set j (tr rs j, s1)) i = st rs i := by intro i hi; unfold st; rw [Mv2.getD_set_ne _ _ _ _ _ hi]
  have v_eq : ∀ i, vl (rs.set j (tr rs j, s1)) svs i = vl rs svs i := by
    intro i
    unfold vl
    by_cases e : i = j
    · subst e; rw [s_self, hl]
    · rw [s_ne i e]
  refine ⟨by simp [h1], h2, ⟨cur, hgc1, by simpa using h3, h4, h5, fun i hi => ?_⟩, fun i hi => ?_, fun a b ha hb hab => ?_⟩
  · rw [List.length_set] at hi
    rw [t_eq, v_eq]
    exact h6 i hi
  · rw [List.length_set] at hi
    rw [v_eq]
    by_cases e : i = j
    · subst e
      rw [s_self]
      exact hr
    · rw [s_ne i e]
      refine Kd.R_mono (Kd.R_grown (Kd.R_mono (ok' := fun k => some k ≠ (vl rs svs j).ownBlock) (own_tight (h7 i hi)) (fun k hk => ?_)) hg (fun k hk => hk)) (fun _ _ => trivial)
      rw [hk]
      intro e2
      exact h8 i j hi hj e k hk.symm (e2.symm.trans hk.symm)
  · rw [List.length_set] at ha hb
    rw [v_eq, v_eq]
    exact h8 a b ha hb hab
end
theorem revS_len (xs : List Int) (i j : Nat) (h : i ≤ j) (hj : j < xs.length) : (revS xs i j).length = xs.length := by
  unfold revS
  simp
  omega
theorem ownAt {w : World} {base g cap : Nat} {rs : List Rt} {svs : List (Option Addr × Nat)} (h : RT w base g cap rs svs) {j : Nat} (hj : j < rs.length) {xs : List Int} (hx : st rs j = xs) {A : Option Addr} {c : Nat} (hv : vl rs svs j = .slice A xs.length c) : w.ownsRow base 3 1 (.slice A xs.length c) xs.length (es xs) := by
  have := own_RI (RT.stops h hj)
  rw [hv, hx] at this
  exact this
theorem ownMax {w : World} {base g n c : Nat} {xs : List Value} (h : w.ownsRow base 3 1 (.slice (some ⟨g, 0, none⟩) n c) n xs) : n ≤ c ∧ c ≤ maxLen := by
  rcases h.2 with ⟨h1, _⟩ | ⟨g', cap, cur, hv, hbg, hg, hnc, hcm, _⟩
  · cases h1
  · injection hv with _ _ h3
    omega
theorem ownCap {w : World} {base g n c : Nat} {xs : List Value} (h : w.ownsRow base 3 1 (.slice (some ⟨g, 0, none⟩) n c) n xs) : n ≤ c := by
  rcases h.2 with ⟨h1, _⟩ | ⟨g', cap, cur, hv, hbg, hg, hnc, _⟩
  · cases h1
  · injection hv with _ _ h3
    omega
end Go.Proofs.Ytcofibbgdnbejaa.Mv3
