/- Routes as the printed walks tell them (Kd.S), and as the appliers' contracts do (RT): each is the other. -/
import Derived.Test.YtcofibbgdnbejaaMv8
namespace Go.Proofs.Ytcofibbgdnbejaa.Mv9
open Go.RowKit Go.Proofs.YtcofibbgdnbejaaW.PrintWords Go.Proofs.YtcofibbgdnbejaaW.PrintLast Go.Proofs.YtcofibbgdnbejaaW.PrintMore Go.Proofs.Ytcofibbgdnbejaa.Ints Go.Proofs.Ytcofibbgdnbejaa.Mv1 Go.Proofs.Ytcofibbgdnbejaa.Mv2
set_option linter.unusedVariables false
set_option linter.unusedSimpArgs false
section
variable {α : Type} {t : α → Rt} {w : World} {base : Nat} {ok : Nat → Prop}
theorem dd_open {x : α} {cs : List Value} (h : (Kd.iso kdp t).M w base ok x cs) : ∃ v1, cs = [.int .i64 (t x).1, v1] ∧ (Kd.int .i64).R 3 w base ok v1 (t x).2 := by
  obtain ⟨_, _, rfl, rfl, ⟨v1, rfl, g1⟩⟩ := h
  exact ⟨v1, rfl, g1⟩
theorem dd_mk {x : α} {v1 : Value} (g1 : (Kd.int .i64).R 3 w base ok v1 (t x).2) : (Kd.iso kdp t).M w base ok x [.int .i64 (t x).1, v1] := ⟨[.int .i64 (t x).1], [v1], rfl, rfl, ⟨v1, rfl, g1⟩⟩
def svs_of (inner : List Value) (n : Nat) : List (Option Addr × Nat) := (List.range n).map fun j => match inner.getD (j * 2 + 1) undef with
  | Value.slice A _ c => (A, c)
  | _ => (none, 0)
theorem RT_of_S {g cap : Nat} {xs : List α} (h : Kd.S (Kd.iso kdp t) 35 w base ok (.slice (some ⟨g, 0, none⟩) xs.length cap) xs) : ∃ svs, RT w base g cap (xs.map t) svs := by
  obtain ⟨f, hown, inner, ho, hrep⟩ := h
  have ho' := ho
  rcases ho.2 with ⟨h1, _⟩ | ⟨g', cap', cur, hv, hbg, hg, hnc, hcm, hcs, hct⟩
  · cases h1
  simp only [Value.slice.injEq, Option.some.injEq, Addr.mk.injEq, and_true, true_and] at hv
  obtain ⟨_, rfl, rfl⟩ : xs.length = xs.length ∧ g = g' ∧ cap = cap' := ⟨rfl, hv.1, hv.2.2⟩
  rw [List.length_zipIdx] at hnc hct
  change cur.size = cap * 2 at hcs
  change cur.toList.take (xs.length * 2) = inner at hct
  have hel : ∀ j (hj : j < xs.length), ∃ A c, inner[j * 2]? = some (.int .i64 (t xs[j]).1) ∧ inner[j * 2 + 1]? = some (.slice A (t xs[j]).2.length c) ∧ (Kd.int .i64).R 3 w base (fun k => (ok k ∧ some k ≠ some g) ∧ f k = j) (.slice A (t xs[j]).2.length c) (t xs[j]).2 := by
    intro j hj
    have h1 := hrep.2 j (xs[j], j) (Kd.zip_at (List.getElem?_eq_getElem hj))
    obtain ⟨v1, hc, hR⟩ := dd_open (t := t) (x := xs[j]) h1
    change (inner.drop (j * 2)).take 2 = _ at hc
    obtain ⟨A, c, rfl⟩ := Kd.R_slice hR
    refine ⟨A, c, ?_, ?_, hR⟩
    · have := congrArg (fun z => z[0]?) hc
      simpa [List.getElem?_take, List.getElem?_drop] using this
    · have := congrArg (fun z => z[1]?) hc
      simpa [List.getElem?_take, List.getElem?_drop] using this
  refine ⟨svs_of inner xs.length, ?_⟩
  have hsv : ∀ j (hj : j < xs.length), vl (xs.map t) (svs_of inner xs.length) j = inner.getD (j * 2 + 1) undef ∧ st (xs.map t) j = (t xs[j]).2 ∧ tr (xs.map t) j = (t xs[j]).1 := by
    intro j hj
    obtain ⟨A, c, _, h2, _⟩ := hel j hj
    have e1 : st (xs.map t) j = (t xs[j]).2 := by unfold st; simp [hj]
    have e2 : tr (xs.map t) j = (t xs[j]).1 := by unfold tr; simp [hj]
    refine ⟨?_, e1, e2⟩
    unfold vl
    rw [e1]
    have e3 : (svs_of inner xs.length).getD j (none, 0) = (A, c) := by
      have e4 : inner.getD (j * 2 + 1) undef = Value.slice A (t xs[j]).2.length c := by simp [List.getD, h2]
      unfold svs_of
      rw [List.getD, List.getElem?_map, List.getElem?_range hj]
      simp only [Option.map_some, Option.getD_some, e4]
    rw [e3]
    simp [List.getD, h2]
  have hcur : ∀ i, i < xs.length * 2 → cur[i]? = inner[i]? := by
    intro i hi
    rw [← hct, List.getElem?_take, if_pos hi, Array.getElem?_toList]
  refine ⟨by simp [svs_of], hbg, ⟨cur, hg, by simpa using hnc, hcm, hcs, fun j hj => ?_⟩, fun j hj => ?_, fun i j hi hj hij => ?_⟩
  · rw [List.length_map] at hj
    obtain ⟨A, c, h1, h2, _⟩ := hel j hj
    obtain ⟨k1, k2, k3⟩ := hsv j hj
    rw [hcur _ (by omega), hcur _ (by omega), k1, k3, h1]
    exact ⟨rfl, by simp [List.getD, h2]⟩
  · rw [List.length_map] at hj
    obtain ⟨A, c, h1, h2, h3⟩ := hel j hj
    obtain ⟨k1, k2, k3⟩ := hsv j hj
    rw [k1, k2]
    have : inner.getD (j * 2 + 1) undef = .slice A (t xs[j]).2.length c := by simp [List.getD, h2]
    rw [this]
    exact Kd.R_mono h3 (fun _ _ => trivial)
  · rw [List.length_map] at hi hj
    obtain ⟨A, c, _, h2, h3⟩ := hel i hi
    obtain ⟨A', c', _, h2', h3'⟩ := hel j hj
    rw [(hsv i hi).1, (hsv j hj).1, show inner.getD (i * 2 + 1) undef = .slice A (t xs[i]).2.length c by simp [List.getD, h2], show inner.getD (j * 2 + 1) undef = .slice A' (t xs[j]).2.length c' by simp [List.getD, h2']]
    intro k hk hk2
    have e1 := (h3.1 k hk).2
    have e2 := (h3'.1 k hk2).2
    omega
theorem S_of_RT {g cap : Nat} {xs : List α} {svs : List (Option Addr × Nat)} (h : RT w base g cap (xs.map t) svs) : Kd.S (Kd.iso kdp t) 35 w base (fun _ => True) (.slice (some ⟨g, 0, none⟩) xs.length cap) xs := by
  have hne := fun j (hj : j < xs.length) => RT.own_ne h (j := j) (by simpa using hj)
  obtain ⟨h1, h2, ⟨cur, hg, h3, h4, h5, h6⟩, h7, h8⟩ := h
  simp only [List.length_map] at h1 h3 h6 h7 h8
  have hcl : cur.toList.length = cur.size := Array.length_toList
  have hst : ∀ j (hj : j < xs.length), st (xs.map t) j = (t xs[j]).2 ∧ tr (xs.map t) j = (t xs[j]).1 := by
    intro j hj
    exact ⟨by unfold st; simp [hj], by unfold tr; simp [hj]⟩
  obtain ⟨f, hr⟩ := Kd.reps_tag (d := Kd.iso kdp t) (w := w) (base := base) (ok := fun k => True ∧ some k ≠ some g) (xs := xs) (inner := cur.toList.take (xs.length * 2)) (fun j k => (vl (xs.map t) svs j).ownBlock = some k ∧ j < xs.length)
    (fun i j k hi hj => by
      rcases Nat.decEq i j with e | e
      · exact absurd hj.1 (h8 i j hi.2 hj.2 e k hi.1)
      · exact e)
    (fun j k hk => ⟨trivial, fun e => hne j hk.2 (by rw [hk.1]; exact e)⟩)
    (by
      show _ = xs.length * 2
      rw [List.length_take]
      omega)
    (fun j x hx => by
      obtain ⟨hj, rfl⟩ := List.getElem?_eq_some_iff.1 hx
      obtain ⟨k1, k2⟩ := h6 j hj
      have e : ((cur.toList.take (xs.length * 2)).drop (j * 2)).take 2 = [.int .i64 (t xs[j]).1, vl (xs.map t) svs j] := by
        rw [(hst j hj).2] at k1
        apply List.ext_getElem?
        intro q
        rw [List.getElem?_take, List.getElem?_drop, List.getElem?_take]
        match q with
        | 0 =>
          rw [if_pos (by omega), if_pos (by omega), Array.getElem?_toList, Nat.add_zero, k1]
          rfl
        | 1 =>
          rw [if_pos (by omega), if_pos (by omega), Array.getElem?_toList, k2]
          rfl
        | q + 2 =>
          rw [if_neg (by omega)]
          rfl
      show (Kd.iso kdp t).M _ _ _ _ (((cur.toList.take (xs.length * 2)).drop (j * 2)).take 2)
      rw [e]
      have := own_tight (h7 j hj)
      rw [(hst j hj).1] at this
      exact dd_mk (Kd.R_mono this (fun k hk => ⟨hk.symm, hj⟩)))
  refine ⟨f, fun _ _ => trivial, _, ?_, hr⟩
  rw [List.length_zipIdx]
  exact ⟨by show _ = xs.length * 2; rw [List.length_take]; omega, .inr ⟨g, cap, cur, rfl, h2, hg, h3, h4, h5, rfl⟩⟩
end
end Go.Proofs.Ytcofibbgdnbejaa.Mv9
