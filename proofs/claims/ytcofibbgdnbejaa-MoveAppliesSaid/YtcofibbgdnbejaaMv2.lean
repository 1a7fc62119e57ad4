/- Routes of the call's own in memory: each route's stops are a row of their own, no two of them one. How they read, and what a store does to them. -/
import Derived.Test.YtcofibbgdnbejaaMv1
namespace Go.Proofs.Ytcofibbgdnbejaa.Mv2
open Go.RowKit Go.Proofs.YtcofibbgdnbejaaW.PrintWords Go.Proofs.YtcofibbgdnbejaaW.PrintLast Go.Proofs.YtcofibbgdnbejaaW.PrintMore Go.Proofs.Ytcofibbgdnbejaa.Ints Go.Proofs.Ytcofibbgdnbejaa.Mv1
set_option linter.unusedVariables false
set_option linter.unusedSimpArgs false
abbrev Rt := Int × List Int
abbrev kdp : Kd Rt := Kd.pair (Kd.int .i64) (Kd.slice 3 (Kd.int .i64))
def tr (rs : List Rt) (j : Nat) : Int := (rs.getD j (0, [])).1
def st (rs : List Rt) (j : Nat) : List Int := (rs.getD j (0, [])).2
def vl (rs : List Rt) (svs : List (Option Addr × Nat)) (j : Nat) : Value := .slice (svs.getD j (none, 0)).1 (st rs j).length (svs.getD j (none, 0)).2
/-- The routes rs lie in block g; svs are where their stops lie. -/
def RT (w : World) (base g cap : Nat) (rs : List Rt) (svs : List (Option Addr × Nat)) : Prop :=
  svs.length = rs.length ∧ base ≤ g ∧ (∃ cur, w.heap[g]? = some (.cells cur 35 (0, 0)) ∧ rs.length ≤ cap ∧ cap ≤ maxLen ∧ cur.size = cap * 2 ∧ ∀ j, j < rs.length → cur[j * 2]? = some (.int .i64 (tr rs j)) ∧ cur[j * 2 + 1]? = some (vl rs svs j)) ∧
  (∀ j, j < rs.length → RI w base (fun _ => True) (vl rs svs j) (st rs j)) ∧ ∀ i j, i < rs.length → j < rs.length → i ≠ j → NeRow (vl rs svs i) (vl rs svs j)
/-- All blocks of a row of numbers are its own one. -/
theorem own_tight {w : World} {base : Nat} {ok : Nat → Prop} {v : Value} {xs : List Int} (h : RI w base ok v xs) : RI w base (fun k => some k = v.ownBlock) v xs :=
  Kd.R_of_own (own_RI h) (fun k hk => hk.symm)
theorem RI_far {w : World} {base : Nat} {ok : Nat → Prop} {v : Value} {xs : List Int} (h : RI w base ok v xs) {g i : Nat} {u : Value} (hg : v.ownBlock ≠ some g) : RI (w.setCell ⟨g, i, none⟩ u) base ok v xs := by
  have h2 := Kd.R_far (p := ⟨g, i, none⟩) (own_tight h) (fun k hk e => hg (by rw [← hk]; exact congrArg some e)) u
  exact Kd.R_of_own (own_RI h2) (fun k hk => h.1 k hk)
section
variable {w w1 : World} {base g cap : Nat} {rs : List Rt} {svs : List (Option Addr × Nat)}
theorem RT.lt (h : RT w base g cap rs svs) : g < w.heap.size := by
  obtain ⟨_, _, ⟨cur, hg, _⟩, _⟩ := h
  exact blk_lt hg
theorem RT.cell1 (h : RT w base g cap rs svs) {j : Nat} (hj : j < rs.length) : w.cell? ⟨g, j * 2 + 1, none⟩ = some (vl rs svs j) := by
  obtain ⟨_, _, ⟨cur, hg, _, _, _, hc⟩, _⟩ := h
  rw [blk_cell hg]
  exact (hc j hj).2
theorem RT.free (h : RT w base g cap rs svs) (i : Nat) : w.frozen? ⟨g, i, none⟩ = false := by
  obtain ⟨_, _, ⟨cur, hg, _⟩, _⟩ := h
  exact blk_frozen hg i
theorem RT.stops (h : RT w base g cap rs svs) {j : Nat} (hj : j < rs.length) : RI w base (fun _ => True) (vl rs svs j) (st rs j) := h.2.2.2.1 j hj
theorem RT.below (h : RT w base g cap rs svs) (hb : Below w.heap.size w w1) : RT w1 base g cap rs svs := by
  obtain ⟨h1, h2, ⟨cur, hg, h3⟩, h4, h5⟩ := h
  exact ⟨h1, h2, ⟨cur, blk_below hg hb, h3⟩, fun j hj => Kd.R_below (h4 j hj) hb, h5⟩
theorem RT.own_ne (h : RT w base g cap rs svs) {j : Nat} (hj : j < rs.length) : (vl rs svs j).ownBlock ≠ some g := by
  intro e
  obtain ⟨_, _, ⟨cur, hg, _⟩, h4, _⟩ := h
  obtain ⟨cells, hc⟩ := Kd.R_typed (h4 j hj) g e
  rw [hg] at hc
  have := congrArg (fun z => match z with | some (Obj.cells _ t _) => t | _ => 0) hc
  exact absurd (show 35 = 3 from this) (by decide)
theorem getD_set_self {α : Type} (l : List α) (j : Nat) (x d : α) (h : j < l.length) : (l.set j x).getD j d = x := by simp [h]
theorem getD_set_ne {α : Type} (l : List α) (i j : Nat) (x d : α) (h : i ≠ j) : (l.set j x).getD i d = l.getD i d := by simp [List.getD, List.getElem?_set_ne (Ne.symm h)]
/-- The stops of route j have become another row: it is stored in the route. -/
theorem RT.put (h : RT w base g cap rs svs) {j : Nat} (hj : j < rs.length) {A1 : Option Addr} {c1 : Nat} {s1 : List Int} {row : Option Nat} (hg : w.grownBy w1 row) (hrow : row = none ∨ row = (vl rs svs j).ownBlock) (hr : RI w1 base (fun _ => True) (.slice A1 s1.length c1) s1)
    (hat : (Value.slice A1 s1.length c1).ownBlock = none ∨ (Value.slice A1 s1.length c1).ownBlock = (vl rs svs j).ownBlock ∨ ∃ b, (Value.slice A1 s1.length c1).ownBlock = some b ∧ w.heap.size ≤ b) :
    RT (w1.setCell ⟨g, j * 2 + 1, none⟩ (.slice A1 s1.length c1)) base g cap (rs.set j (tr rs j, s1)) (svs.set j (A1, c1)) ∧ w1.grownBy (w1.setCell ⟨g, j * 2 + 1, none⟩ (.slice A1 s1.length c1)) (some g) := by
  have hne := fun i hi => RT.own_ne h (j := i) hi
  have hrg : some g ≠ row := by
    rcases hrow with e | e
    · rw [e]; simp
    · rw [e]; exact fun e2 => hne j hj e2.symm
  have hlt := RT.lt h
  obtain ⟨h1, h2, ⟨cur, hgc, h3, h4, h5, h6⟩, h7, h8⟩ := h
  have hgc1 := blk_grown hgc hg hrg
  have hnew : (Value.slice A1 s1.length c1).ownBlock ≠ some g := by
    rcases hat with e | e | ⟨b, hb, hle⟩
    · rw [e]; simp
    · rw [e]; exact hne j hj
    · rw [hb]; intro e; injection e with e; omega
  have hset := blk_set hgc1 (j * 2 + 1) (.slice A1 s1.length c1)
  have hsj : j < svs.length := by omega
  have v_self : vl (rs.set j (tr rs j, s1)) (svs.set j (A1, c1)) j = .slice A1 s1.length c1 := by
    unfold vl st
    rw [getD_set_self _ _ _ _ hsj, getD_set_self _ _ _ _ hj]
  have v_ne : ∀ i, i ≠ j → vl (rs.set j (tr rs j, s1)) (svs.set j (A1, c1)) i = vl rs svs i := by
    intro i hi
    unfold vl st
    rw [getD_set_ne _ _ _ _ _ hi, getD_set_ne _ _ _ _ _ hi]
  have t_eq : ∀ i, tr (rs.set j (tr rs j, s1)) i = tr rs i := by
    intro i
    by_cases e : i = j
    · subst e; unfold tr; rw [getD_set_self _ _ _ _ hj]
    · unfold tr; rw [getD_set_ne _ _ _ _ _ e]
  have s_self : st (rs.set j (tr rs j, s1)) j = s1 := by unfold st; rw [getD_set_self _ _ _ _ hj]
  have s_ne : ∀ i, i ≠ j → st (rs.set j (tr rs j, s1)) i = st rs i := by intro i hi; unfold st; rw [getD_set_ne _ _ _ _ _ hi]
  have hx : ∀ i, i < rs.length → i ≠ j → RI w1 base (fun _ => True) (vl rs svs i) (st rs i) := by
    intro i hi e
    refine Kd.R_mono (Kd.R_grown (Kd.R_mono (ok' := fun k => some k ≠ row) (own_tight (h7 i hi)) (fun k hk => ?_)) hg (fun k hk => hk)) (fun _ _ => trivial)
    rcases hrow with er | er
    · rw [er]; simp
    · rw [er, hk]
      intro e2
      have := h8 i j hi hj e k hk.symm
      exact this (e2.symm.trans hk.symm)
  have hapart : ∀ i, i < rs.length → i ≠ j → NeRow (.slice A1 s1.length c1) (vl rs svs i) := by
    intro i hi e k hk hk2
    rcases hat with e1 | e1 | ⟨b, hb, hle⟩
    · rw [e1] at hk; cases hk
    · rw [e1] at hk
      exact h8 j i hj hi (Ne.symm e) k hk hk2
    · rw [hb] at hk
      injection hk with hk
      have := Kd.R_lt (h7 i hi) k hk2
      omega
  refine ⟨⟨by simp [h1], h2, ⟨_, hset, by simpa using h3, h4, by simpa using h5, fun i hi => ?_⟩, fun i hi => ?_, fun a b ha hb hab => ?_⟩, grown_set w1 g (j * 2 + 1) [_]⟩
  · rw [List.length_set] at hi
    obtain ⟨k1, k2⟩ := h6 i hi
    rw [t_eq i]
    refine ⟨by rw [Array.getElem?_setIfInBounds_ne (by omega)]; exact k1, ?_⟩
    by_cases e : i = j
    · subst e
      rw [v_self, Array.getElem?_setIfInBounds_self_of_lt]
      have := (Array.getElem?_eq_some_iff.1 k2).1
      exact this
    · rw [v_ne i e, Array.getElem?_setIfInBounds_ne (by omega)]
      exact k2
  · rw [List.length_set] at hi
    by_cases e : i = j
    · subst e
      rw [v_self, s_self]
      exact RI_far hr hnew
    · rw [v_ne i e, s_ne i e]
      refine RI_far (hx i hi e) (hne i hi)
  · rw [List.length_set] at ha hb
    by_cases ea : a = j
    · subst ea
      rw [v_self, v_ne b (Ne.symm hab)]
      exact hapart b hb (Ne.symm hab)
    · by_cases eb : b = j
      · subst eb
        rw [v_self, v_ne a ea]
        exact ne_symm (hapart a ha ea)
      · rw [v_ne a ea, v_ne b eb]
        exact h8 a b ha hb hab
end
end Go.Proofs.Ytcofibbgdnbejaa.Mv2
