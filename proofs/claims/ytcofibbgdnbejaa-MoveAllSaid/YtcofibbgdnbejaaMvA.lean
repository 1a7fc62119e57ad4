/- slices.Delete and slices.Reverse at rows of whole numbers that a call owns, as the library's text goes, in the words of an own row. -/
import Derived.Test.YtcofibbgdnbejaaInts
import Derived.Shelf.Slices.Cells
import Derived.Shelf.Slices.Empties
namespace Go.Proofs.Ytcofibbgdnbejaa.Mv1
open Go.RowKit Go.Proofs.YtcofibbgdnbejaaW.PrintWords Go.Proofs.YtcofibbgdnbejaaW.PrintLast Go.Proofs.YtcofibbgdnbejaaW.PrintMore Go.Proofs.Ytcofibbgdnbejaa.Ints
set_option linter.unusedVariables false
set_option linter.unusedSimpArgs false
def laysD_ren : Go.Shelf.Ren := ⟨fun | 23 => 39 | n => n, fun | 22 => 33 | n => n, fun n => n⟩
theorem laysD : Lays2.n23 Try.prog laysD_ren := {
  mixed := (by kernel_rfl)
  f23 := Try.func39.trans (congrArg some (by kernel_rfl))
  t0 := Try.underlying0
  a0 := Try.isAgg0
  z0 := Try.sizeOf0
  v0 := Try.zeroValue0
  t3 := Try.underlying3
  a3 := Try.isAgg3
  z3 := Try.sizeOf3
  v3 := Try.zeroValue3
  t4 := Try.underlying4
  a4 := Try.isAgg4
  z4 := Try.sizeOf4
  v4 := Try.zeroValue4
  t22 := Try.underlying33
  a22 := Try.isAgg33
  z22 := Try.sizeOf33
  v22 := Try.zeroValue33
  i3 := (by kernel_rfl) }
def laysR_ren : Go.Shelf.Ren := ⟨fun | 112 => 42 | n => n, fun | 28 => 33 | n => n, fun n => n⟩
theorem laysR : Lays.n112 Try.prog laysR_ren := {
  mixed := (by kernel_rfl)
  f112 := Try.func42.trans (congrArg some (by kernel_rfl))
  t0 := Try.underlying0
  a0 := Try.isAgg0
  z0 := Try.sizeOf0
  v0 := Try.zeroValue0
  t3 := Try.underlying3
  a3 := Try.isAgg3
  z3 := Try.sizeOf3
  v3 := Try.zeroValue3
  t4 := Try.underlying4
  a4 := Try.isAgg4
  z4 := Try.sizeOf4
  v4 := Try.zeroValue4
  t28 := Try.underlying33
  a28 := Try.isAgg33
  z28 := Try.sizeOf33
  v28 := Try.zeroValue33
 }
theorem cells_getD {w : World} {g : Nat} {cur : Array Value} {e : TypeId} {xs : List Int} (h : w.heap[g]? = some (.cells cur e (0, 0))) (ht : cur.toList.take xs.length = es xs) (o : Nat) : ∀ j, j < (xs.drop o).length → w.cell? ⟨g, o + j, none⟩ = some (.int .i64 ((xs.drop o).getD j 0)) := by
  intro j hj
  rw [List.length_drop] at hj
  have := cells_of h ht (o + j) (.int .i64 (xs.getD (o + j) 0)) (by simp [es, encs, show o + j < xs.length by omega])
  rw [Nat.zero_add] at this
  rw [this]
  simp [List.getD]
theorem len_cur {cur : Array Value} {xs : List Int} (ht : cur.toList.take xs.length = es xs) : xs.length ≤ cur.size := by
  have h1 := congrArg List.length ht
  have h2 := Array.length_toList (xs := cur)
  rw [List.length_take, es_len] at h1
  omega
/-- A piece of an own row is laid anew: the row reads as it says. -/
theorem own_splice {w : World} {base g cap n : Nat} {xs ys : List Int} (h : w.ownsRow base 3 1 (.slice (some ⟨g, 0, none⟩) xs.length cap) xs.length (es xs)) (o : Nat) (ho : o + ys.length ≤ xs.length) (q : Nat) (m : Nat) (hm : m ≤ xs.length) :
    ((w.drewN q).setCells g o (es ys)).ownsRow base 3 1 (.slice (some ⟨g, 0, none⟩) m cap) m (es ((xs.take o ++ ys ++ xs.drop (o + ys.length)).take m)) := by
  rcases h.2 with ⟨h1, _⟩ | ⟨g', cap', cur, hv, hbg, hg, hnc, hcm, hcs, hct⟩
  · cases h1
  · simp only [Value.slice.injEq, Option.some.injEq, Addr.mk.injEq, and_true, true_and] at hv
    obtain ⟨rfl, rfl⟩ := hv
    rw [Nat.mul_one] at hcs hct
    have hl := len_cur hct
    obtain ⟨cur', k1, k2, k3⟩ := setCells_row (g := g) (es ys) o (w.drewN q) cur hg (by rw [es_len]; omega)
    refine own_of k1 hbg (Nat.le_trans hm hnc) hcm (by omega) (by rw [es_len, List.length_take]; simp; omega) ?_
    rw [k3, es_len, es_take, es_app, es_app, es_take, es_drop, ← hct]
    have hcl : cur.toList.length = cur.size := Array.length_toList
    have e1 : (cur.toList.take xs.length).take o = cur.toList.take o := by rw [List.take_take, Nat.min_eq_left (by omega)]
    rw [e1]
    have e2 : cur.toList.drop (o + ys.length) = (cur.toList.take xs.length).drop (o + ys.length) ++ cur.toList.drop xs.length := by
      conv => lhs; rw [← List.take_append_drop xs.length cur.toList]
      rw [List.drop_append_of_le_length (by rw [List.length_take]; omega)]
    rw [e2, ← List.append_assoc]
    rw [List.take_append_of_le_length]
    rw [List.length_append, List.length_append, es_len, List.length_take, List.length_drop, List.length_take]
    omega
theorem grown_drewN (w : World) (n : Nat) (row : Option Nat) : w.grownBy (w.drewN n) row := ⟨rfl, rfl, rfl, Nat.le_refl _, fun _ _ _ => rfl⟩
set_option maxHeartbeats 4000000 in
theorem del (base : Nat) (xs : List Int) (i j : Nat) (A : Option Addr) (c : Nat) (w : World) (ho : w.ownsRow base 3 1 (.slice A xs.length c) xs.length (es xs)) (hij : i ≤ j) (hj : j ≤ xs.length) :
    Calls Try.prog 39 #[.slice A xs.length c, .int .i64 (i : Int), .int .i64 (j : Int)] w fun e w' => e = .returned (.slice A (xs.take i ++ xs.drop j).length c) ∧ w'.ownsRow base 3 1 (.slice A (xs.take i ++ xs.drop j).length c) (xs.take i ++ xs.drop j).length (es (xs.take i ++ xs.drop j)) ∧ w.grownBy w' (Value.slice A xs.length c).ownBlock := by
  have hlen : (xs.take i ++ xs.drop j).length = xs.length - (j - i) := by rw [List.length_append, List.length_take, List.length_drop]; omega
  by_cases h0 : xs.length = 0
  · obtain rfl := List.eq_nil_of_length_eq_zero h0
    obtain rfl : j = 0 := by simpa using hj
    obtain rfl : i = 0 := by omega
    exact (Any.slices_Delete_int_empty laysD A c w).mono fun e w' ⟨he, hw⟩ => ⟨he, by rw [hw]; exact ho, by rw [hw]; exact ⟨rfl, rfl, rfl, Nat.le_refl _, fun _ _ _ => rfl⟩⟩
  · rcases ho.2 with ⟨h1, h2⟩ | ⟨g, cap, cur, hv, hbg, hg, hnc, hcm, hcs, hct⟩
    · exact absurd h2 h0
    · simp only [Value.slice.injEq, true_and] at hv
      obtain ⟨rfl, rfl⟩ := hv
      have hct' := hct
      rw [Nat.mul_one] at hct'
      have hcc := cells_getD hg hct' 0
      simp only [List.drop_zero] at hcc
      have h := Any.slices_Delete_int_cells laysD g 0 xs.length c i j xs w (Nat.le_refl _) hnc hcm hij hj hcc (fun k hk => blk_frozen hg _)
      refine h.mono ?_
      rintro e w' ⟨rfl, q, rfl⟩
      rw [hlen]
      refine ⟨rfl, ?_, grown_trans (grown_drewN _ _ _) (grown_set _ g 0 _)⟩
      have hys : (xs.take i ++ xs.drop j ++ List.replicate (j - i) (0 : Int)).length = xs.length := by
        rw [List.length_append, List.length_append, List.length_take, List.length_drop, List.length_replicate]
        omega
      have := own_splice (n := 0) ho (ys := xs.take i ++ xs.drop j ++ List.replicate (j - i) (0 : Int)) 0 (by rw [Nat.zero_add, hys]; exact Nat.le_refl _) q (xs.length - (j - i)) (by omega)
      rw [List.take_length]
      have e1 : ((xs.take 0 ++ (xs.take i ++ xs.drop j ++ List.replicate (j - i) (0 : Int)) ++ xs.drop (0 + (xs.take i ++ xs.drop j ++ List.replicate (j - i) (0 : Int)).length)).take (xs.length - (j - i))) = xs.take i ++ xs.drop j := by
        rw [List.take_zero, List.nil_append, Nat.zero_add, hys, List.drop_length, List.append_nil]
        exact take_app _ _ _ hlen
      rw [e1] at this
      exact this
/-- The numbers from i to j stand in the order from behind. -/
def revS (xs : List Int) (i j : Nat) : List Int := xs.take i ++ ((xs.drop i).take (j + 1 - i)).reverse ++ xs.drop (j + 1)
set_option maxHeartbeats 4000000 in
theorem rev (base : Nat) (xs : List Int) (i j : Nat) (g c c' : Nat) (w : World) (ho : w.ownsRow base 3 1 (.slice (some ⟨g, 0, none⟩) xs.length c) xs.length (es xs)) (hij : i ≤ j) (hj : j < xs.length) :
    Calls Try.prog 42 #[.slice (some ⟨g, i, none⟩) (j + 1 - i) c'] w fun e w' => e = .returned (.tuple #[]) ∧ w'.ownsRow base 3 1 (.slice (some ⟨g, 0, none⟩) xs.length c) xs.length (es (revS xs i j)) ∧ w.grownBy w' (some g) := by
  rcases ho.2 with ⟨h1, h2⟩ | ⟨g', cap, cur, hv, hbg, hg, hnc, hcm, hcs, hct⟩
  · cases h1
  · simp only [Value.slice.injEq, Option.some.injEq, Addr.mk.injEq, and_true, true_and] at hv
    obtain ⟨rfl, rfl⟩ := hv
    have hmax : xs.length ≤ 9223372036854775807 := by unfold maxLen at hcm; omega
    have hct' := hct
    rw [Nat.mul_one] at hct'
    have h := Any.slices_Reverse_int_cells laysR g i (j + 1 - i) c' (xs.drop i) w (by rw [List.length_drop]; omega) (by omega) (cells_getD hg hct' i) (fun k hk => blk_frozen hg _)
    refine h.mono ?_
    rintro e w' ⟨rfl, q, rfl⟩
    refine ⟨rfl, ?_, grown_trans (grown_drewN _ _ _) (grown_set _ g i _)⟩
    have hyl : (((xs.drop i).take (j + 1 - i)).reverse).length = j + 1 - i := by rw [List.length_reverse, List.length_take, List.length_drop]; omega
    have := own_splice (n := 0) ho (ys := ((xs.drop i).take (j + 1 - i)).reverse) i (by rw [hyl]; omega) q xs.length (Nat.le_refl _)
    rw [hyl, show i + (j + 1 - i) = j + 1 by omega] at this
    have e1 : (xs.take i ++ ((xs.drop i).take (j + 1 - i)).reverse ++ xs.drop (j + 1)).take xs.length = xs.take i ++ ((xs.drop i).take (j + 1 - i)).reverse ++ xs.drop (j + 1) := List.take_of_length_le (by rw [List.length_append, List.length_append, hyl, List.length_take, List.length_drop]; omega)
    rw [e1] at this
    exact this
end Go.Proofs.Ytcofibbgdnbejaa.Mv1
namespace Go.Proofs.Ytcofibbgdnbejaa.Mv2
open Go.RowKit Go.Proofs.YtcofibbgdnbejaaW.PrintWords Go.Proofs.YtcofibbgdnbejaaW.PrintLast Go.Proofs.YtcofibbgdnbejaaW.PrintMore Go.Proofs.Ytcofibbgdnbejaa.Ints Go.Proofs.Ytcofibbgdnbejaa.Mv1
set_option linter.unusedVariables false
set_option linter.unusedSimpArgs false
abbrev Rt := Int × List Int
abbrev kdp : Kd Rt := Kd.pair (Kd.int .i64) (Kd.slice 3 (Kd.int .i64))
def tr (rs : List Rt) (j : Nat) : Int := (rs.getD j (0, [])).1
def st (rs : List Rt) (j : Nat) : List Int := (rs.getD j (0, [])).2
def vl (rs : List Rt) (svs : List (Option Addr × Nat)) (j : Nat) : Value := .slice (svs.getD j (none, 0)).1 (st rs j).length (svs.getD j (none, 0)).2
/-- The routes rs lie in block g; svs are where their stops lie. -/
def RT (w : World) (base g cap : Nat) (rs : List Rt) (svs : List (Option Addr × Nat)) : Prop :=
  svs.length = rs.length ∧ base ≤ g ∧ (∃ cur, w.heap[g]? = some (.cells cur 35 (0, 0)) ∧ rs.length ≤ cap ∧ cap ≤ maxLen ∧ cur.size = cap * 2 ∧ ∀ j, j < rs.length → cur[j * 2]? = some (.int .i64 (tr rs j)) ∧ cur[j * 2 + 1]? = some (vl rs svs j)) ∧
  (∀ j, j < rs.length → RI w base (fun _ => True) (vl rs svs j) (st rs j)) ∧ ∀ i j, i < rs.length → j < rs.length → i ≠ j → NeRow (vl rs svs i) (vl rs svs j)
/-- All blocks of a row of numbers are its own one. -/
theorem own_tight {w : World} {base : Nat} {ok : Nat → Prop} {v : Value} {xs : List Int} (h : RI w base ok v xs) : RI w base (fun k => some k = v.ownBlock) v xs :=
  Kd.R_of_own (own_RI h) (fun k hk => hk.symm)
theorem RI_far {w : World} {base : Nat} {ok : Nat → Prop} {v : Value} {xs : List Int} (h : RI w base ok v xs) {g i : Nat} {u : Value} (hg : v.ownBlock ≠ some g) : RI (w.setCell ⟨g, i, none⟩ u) base ok v xs := by
  have h2 := Kd.R_far (p := ⟨g, i, none⟩) (own_tight h) (fun k hk e => hg (by rw [← hk]; exact congrArg some e)) u
  exact Kd.R_of_own (own_RI h2) (fun k hk => h.1 k hk)
section
variable {w w1 : World} {base g cap : Nat} {rs : List Rt} {svs : List (Option Addr × Nat)}
theorem RT.lt (h : RT w base g cap rs svs) : g < w.heap.size := by
  obtain ⟨_, _, ⟨cur, hg, _⟩, _⟩ := h
  exact blk_lt hg
theorem RT.cell1 (h : RT w base g cap rs svs) {j : Nat} (hj : j < rs.length) : w.cell? ⟨g, j * 2 + 1, none⟩ = some (vl rs svs j) := by
  obtain ⟨_, _, ⟨cur, hg, _, _, _, hc⟩, _⟩ := h
  rw [blk_cell hg]
  exact (hc j hj).2
theorem RT.free (h : RT w base g cap rs svs) (i : Nat) : w.frozen? ⟨g, i, none⟩ = false := by
  obtain ⟨_, _, ⟨cur, hg, _⟩, _⟩ := h
  exact blk_frozen hg i
theorem RT.stops (h : RT w base g cap rs svs) {j : Nat} (hj : j < rs.length) : RI w base (fun _ => True) (vl rs svs j) (st rs j) := h.2.2.2.1 j hj
theorem RT.below (h : RT w base g cap rs svs) (hb : Below w.heap.size w w1) : RT w1 base g cap rs svs := by
  obtain ⟨h1, h2, ⟨cur, hg, h3⟩, h4, h5⟩ := h
  exact ⟨h1, h2, ⟨cur, blk_below hg hb, h3⟩, fun j hj => Kd.R_below (h4 j hj) hb, h5⟩
theorem RT.own_ne (h : RT w base g cap rs svs) {j : Nat} (hj : j < rs.length) : (vl rs svs j).ownBlock ≠ some g := by
  intro e
  obtain ⟨_, _, ⟨cur, hg, _⟩, h4, _⟩ := h
  obtain ⟨cells, hc⟩ := Kd.R_typed (h4 j hj) g e
  rw [hg] at hc
  have := congrArg (fun z => match z with | some (Obj.cells _ t _) => t | _ => 0) hc
  exact absurd (show 35 = 3 from this) (by decide)
theorem getD_set_self {α : Type} (l : List α) (j : Nat) (x d : α) (h : j < l.length) : (l.set j x).getD j d = x := by simp [h]
theorem getD_set_ne {α : Type} (l : List α) (i j : Nat) (x d : α) (h : i ≠ j) : (l.set j x).getD i d = l.getD i d := by simp [List.getD, List.getElem?_set_ne (Ne.symm h)]
/-- The stops of route j have become another row: it is stored in the route. -/
theorem RT.put (h : RT w base g cap rs svs) {j : Nat} (hj : j < rs.length) {A1 : Option Addr} {c1 : Nat} {s1 : List Int} {row : Option Nat} (hg : w.grownBy w1 row) (hrow : row = none ∨ row = (vl rs svs j).ownBlock) (hr : RI w1 base (fun _ => True) (.slice A1 s1.length c1) s1)
    (hat : (Value.slice A1 s1.length c1).ownBlock = none ∨ (Value.slice A1 s1.length c1).ownBlock = (vl rs svs j).ownBlock ∨ ∃ b, (Value.slice A1 s1.length c1).ownBlock = some b ∧ w.heap.size ≤ b) :
    RT (w1.setCell ⟨g, j * 2 + 1, none⟩ (.slice A1 s1.length c1)) base g cap (rs.set j (tr rs j, s1)) (svs.set j (A1, c1)) ∧ w1.grownBy (w1.setCell ⟨g, j * 2 + 1, none⟩ (.slice A1 s1.length c1)) (some g) := by
  have hne := fun i hi => RT.own_ne h (j := i) hi
  have hrg : some g ≠ row := by
    rcases hrow with e | e
    · rw [e]; simp
    · rw [e]; exact fun e2 => hne j hj e2.symm
  have hlt := RT.lt h
  obtain ⟨h1, h2, ⟨cur, hgc, h3, h4, h5, h6⟩, h7, h8⟩ := h
  have hgc1 := blk_grown hgc hg hrg
  have hnew : (Value.slice A1 s1.length c1).ownBlock ≠ some g := by
    rcases hat with e | e | ⟨b, hb, hle⟩
    · rw [e]; simp
    · rw [e]; exact hne j hj
    · rw [hb]; intro e; injection e with e; omega
  have hset := blk_set hgc1 (j * 2 + 1) (.slice A1 s1.length c1)
  have hsj : j < svs.length := by omega
  have v_self : vl (rs.set j (tr rs j, s1)) (svs.set j (A1, c1)) j = .slice A1 s1.length c1 := by
    unfold vl st
    rw [getD_set_self _ _ _ _ hsj, getD_set_self _ _ _ _ hj]
  have v_ne : ∀ i, i ≠ j → vl (rs.set j (tr rs j, s1)) (svs.set j (A1, c1)) i = vl rs svs i := by
    intro i hi
    unfold vl st
    rw [getD_set_ne _ _ _ _ _ hi, getD_set_ne _ _ _ _ _ hi]
  have t_eq : ∀ i, tr (rs.set j (tr rs j, s1)) i = tr rs i := by
    intro i
    by_cases e : i = j
    · subst e; unfold tr; rw [getD_set_self _ _ _ _ hj]
    · unfold tr; rw [getD_set_ne _ _ _ _ _ e]
  have s_self : st (rs.set j (tr rs j, s1)) j = s1 := by unfold st; rw [getD_set_self _ _ _ _ hj]
  have s_ne : ∀ i, i ≠ j → st (rs.set j (tr rs j, s1)) i = st rs i := by intro i hi; unfold st; rw [getD_set_ne _ _ _ _ _ hi]
  have hx : ∀ i, i < rs.length → i ≠ j → RI w1 base (fun _ => True) (vl rs svs i) (st rs i) := by
    intro i hi e
    refine Kd.R_mono (Kd.R_grown (Kd.R_mono (ok' := fun k => some k ≠ row) (own_tight (h7 i hi)) (fun k hk => ?_)) hg (fun k hk => hk)) (fun _ _ => trivial)
    rcases hrow with er | er
    · rw [er]; simp
    · rw [er, hk]
      intro e2
      have := h8 i j hi hj e k hk.symm
      exact this (e2.symm.trans hk.symm)
  have hapart : ∀ i, i < rs.length → i ≠ j → NeRow (.slice A1 s1.length c1) (vl rs svs i) := by
    intro i hi e k hk hk2
    rcases hat with e1 | e1 | ⟨b, hb, hle⟩
    · rw [e1] at hk; cases hk
    · rw [e1] at hk
      exact h8 j i hj hi (Ne.symm e) k hk hk2
    · rw [hb] at hk
      injection hk with hk
      have := Kd.R_lt (h7 i hi) k hk2
      omega
  refine ⟨⟨by simp [h1], h2, ⟨_, hset, by simpa using h3, h4, by simpa using h5, fun i hi => ?_⟩, fun i hi => ?_, fun a b ha hb hab => ?_⟩, grown_set w1 g (j * 2 + 1) [_]⟩
  · rw [List.length_set] at hi
    obtain ⟨k1, k2⟩ := h6 i hi
    rw [t_eq i]
    refine ⟨by rw [Array.getElem?_setIfInBounds_ne (by omega)]; exact k1, ?_⟩
    by_cases e : i = j
    · subst e
      rw [v_self, Array.getElem?_setIfInBounds_self_of_lt]
      have := (Array.getElem?_eq_some_iff.1 k2).1
      exact this
    · rw [v_ne i e, Array.getElem?_setIfInBounds_ne (by omega)]
      exact k2
  · rw [List.length_set] at hi
    by_cases e : i = j
    · subst e
      rw [v_self, s_self]
      exact RI_far hr hnew
    · rw [v_ne i e, s_ne i e]
      refine RI_far (hx i hi e) (hne i hi)
  · rw [List.length_set] at ha hb
    by_cases ea : a = j
    · subst ea
      rw [v_self, v_ne b (Ne.symm hab)]
      exact hapart b hb (Ne.symm hab)
    · by_cases eb : b = j
      · subst eb
        rw [v_self, v_ne a ea]
        exact ne_symm (hapart a ha ea)
      · rw [v_ne a ea, v_ne b eb]
        exact h8 a b ha hb hab
end
end Go.Proofs.Ytcofibbgdnbejaa.Mv2
namespace Go.Proofs.Ytcofibbgdnbejaa.Mv3
open Go.RowKit Go.Proofs.YtcofibbgdnbejaaW.PrintWords Go.Proofs.YtcofibbgdnbejaaW.PrintLast Go.Proofs.YtcofibbgdnbejaaW.PrintMore Go.Proofs.Ytcofibbgdnbejaa.Ints Go.Proofs.Ytcofibbgdnbejaa.Mv1 Go.Proofs.Ytcofibbgdnbejaa.Mv2
attribute [local go_sem] max2_int min2_int max_two min_two max_three min_three max_four min_four
set_option linter.unusedVariables false
set_option linter.unusedSimpArgs false
abbrev MS := Int × Int × Int × Int × Int × Int
def turnS (rs : List Rt) (a b i j : Int) : Bool × List Rt :=
  if a = b ∧ 0 ≤ i ∧ i < j ∧ j < ((st rs a.toNat).length : Int) then (true, rs.set a.toNat (tr rs a.toNat, revS (st rs a.toNat) i.toNat j.toNat)) else (false, rs)
theorem sl_mid (w : World) (g n c : Nat) (i j : Nat) (hij : i ≤ j) (hj : j ≤ n) (hc : n ≤ c) (hi : i < c) : (Instr.slice 33 (.slice (some ⟨g, 0, none⟩) n c) (some (.int .i64 (i : Int))) (some (.int .i64 (j : Int))) none).run Try.prog w = .ok (.slice (some ⟨g, i, none⟩) (j - i) (c - i)) w := by
  have h := run_slice_lh (P := Try.prog) w 33 (some ⟨g, 0, none⟩) n c Try.underlying33 .i64 .i64 (i : Int) (j : Int) (by omega) (by omega) (by omega)
  rw [h, show (sizeOf (Try.prog.elem 33)).run Try.prog w = .ok 1 w from Try.sizeOf3 w]
  simp [Result.andThen, sliced, show ¬ c = i by omega, Addr.add]
  intro e
  exact e.symm
section
variable {w w1 : World} {base g cap : Nat} {rs : List Rt} {svs : List (Option Addr × Nat)}
theorem RT.vl_ (rs : List Rt) (svs : List (Option Addr × Nat)) (j : Nat) (xs : List Int) (hx : st rs j = xs) : ∃ A c, vl rs svs j = .slice A xs.length c := by
  subst hx
  exact ⟨_, _, rfl⟩
theorem RT.form (h : RT w base g cap rs svs) {j : Nat} (hj : j < rs.length) {xs : List Int} (hx : st rs j = xs) (hp : 0 < xs.length) : ∃ b c, vl rs svs j = .slice (some ⟨b, 0, none⟩) xs.length c ∧ base ≤ b ∧ b < w.heap.size := by
  subst hx
  obtain ⟨b, c, hv, h1, h2, _⟩ := Kd.R_form (RT.stops h hj) hp
  exact ⟨b, c, hv, h1, h2⟩
/-- The stops of route j change where they lie. -/
theorem RT.inplace (h : RT w base g cap rs svs) {j : Nat} (hj : j < rs.length) {s1 : List Int} (hl : s1.length = (st rs j).length) (hg : w.grownBy w1 (vl rs svs j).ownBlock) (hr : RI w1 base (fun _ => True) (vl rs svs j) s1) : RT w1 base g cap (rs.set j (tr rs j, s1)) svs := by
  have hne := RT.own_ne h hj
  obtain ⟨h1, h2, ⟨cur, hgc, h3, h4, h5, h6⟩, h7, h8⟩ := h
  have hgc1 := blk_grown hgc hg (Ne.symm hne)
  have t_eq : ∀ i, tr (rs.set j (tr rs j, s1)) i = tr rs i := by
    intro i
    by_cases e : i = j
    · subst e; unfold tr; rw [Mv2.getD_set_self _ _ _ _ hj]
    · unfold tr; rw [Mv2.getD_set_ne _ _ _ _ _ e]
  have s_self : st (rs.set j (tr rs j, s1)) j = s1 := by unfold st; rw [Mv2.getD_set_self _ _ _ _ hj]
  have s_ne : ∀ i, i ≠ j → st (rs.set j (tr rs j, s1)) i = st rs i := by intro i hi; unfold st; rw [Mv2.getD_set_ne _ _ _ _ _ hi]
  have v_eq : ∀ i, vl (rs.set j (tr rs j, s1)) svs i = vl rs svs i := by
    intro i
    unfold vl
    by_cases e : i = j
    · subst e; rw [s_self, hl]
    · rw [s_ne i e]
  refine ⟨by simp [h1], h2, ⟨cur, hgc1, by simpa using h3, h4, h5, fun i hi => ?_⟩, fun i hi => ?_, fun a b ha hb hab => ?_⟩
  · rw [List.length_set] at hi
    rw [t_eq, v_eq]
    exact h6 i hi
  · rw [List.length_set] at hi
    rw [v_eq]
    by_cases e : i = j
    · subst e
      rw [s_self]
      exact hr
    · rw [s_ne i e]
      refine Kd.R_mono (Kd.R_grown (Kd.R_mono (ok' := fun k => some k ≠ (vl rs svs j).ownBlock) (own_tight (h7 i hi)) (fun k hk => ?_)) hg (fun k hk => hk)) (fun _ _ => trivial)
      rw [hk]
      intro e2
      exact h8 i j hi hj e k hk.symm (e2.symm.trans hk.symm)
  · rw [List.length_set] at ha hb
    rw [v_eq, v_eq]
    exact h8 a b ha hb hab
theorem RT.lens (h : RT w base g cap rs svs) : rs.length ≤ cap := h.2.2.1.elim fun _ h => h.2.1
end
theorem revS_len (xs : List Int) (i j : Nat) (h : i ≤ j) (hj : j < xs.length) : (revS xs i j).length = xs.length := by
  unfold revS
  simp
  omega
theorem ownAt {w : World} {base g cap : Nat} {rs : List Rt} {svs : List (Option Addr × Nat)} (h : RT w base g cap rs svs) {j : Nat} (hj : j < rs.length) {xs : List Int} (hx : st rs j = xs) {A : Option Addr} {c : Nat} (hv : vl rs svs j = .slice A xs.length c) : w.ownsRow base 3 1 (.slice A xs.length c) xs.length (es xs) := by
  have := own_RI (RT.stops h hj)
  rw [hv, hx] at this
  exact this
theorem ownMax {w : World} {base g n c : Nat} {xs : List Value} (h : w.ownsRow base 3 1 (.slice (some ⟨g, 0, none⟩) n c) n xs) : n ≤ c ∧ c ≤ maxLen := by
  rcases h.2 with ⟨h1, _⟩ | ⟨g', cap, cur, hv, hbg, hg, hnc, hcm, _⟩
  · cases h1
  · injection hv with _ _ h3
    omega
theorem ownCap {w : World} {base g n c : Nat} {xs : List Value} (h : w.ownsRow base 3 1 (.slice (some ⟨g, 0, none⟩) n c) n xs) : n ≤ c := by
  rcases h.2 with ⟨h1, _⟩ | ⟨g', cap, cur, hv, hbg, hg, hnc, _⟩
  · cases h1
  · injection hv with _ _ h3
    omega
end Go.Proofs.Ytcofibbgdnbejaa.Mv3
namespace Go.Proofs.Ytcofibbgdnbejaa.Mv4
open Go.RowKit Go.Proofs.YtcofibbgdnbejaaW.PrintWords Go.Proofs.YtcofibbgdnbejaaW.PrintLast Go.Proofs.YtcofibbgdnbejaaW.PrintMore Go.Proofs.Ytcofibbgdnbejaa.Ints Go.Proofs.Ytcofibbgdnbejaa.Mv1 Go.Proofs.Ytcofibbgdnbejaa.Mv2 Go.Proofs.Ytcofibbgdnbejaa.Mv3
attribute [local go_sem] max2_int min2_int max_two min_two max_three min_three max_four min_four
set_option linter.unusedVariables false
set_option linter.unusedSimpArgs false
set_option maxHeartbeats 8000000 in
set_option maxRecDepth 100000 in
theorem turn_n1 (W0 : World) (g cap : Nat) (rs : List Rt) (svs : List (Option Addr × Nat)) (k a i b j n : Int) (w : World) (hb : Below W0.heap.size W0 w) (hT : RT w W0.heap.size g cap rs svs) (ha : 0 ≤ a) (hal : a < rs.length) (hb0 : 0 ≤ b) (hbl : b < rs.length) (h : ¬ a = b) : Calls Try.prog 32 #[.agg #[.int .i64 k, .int .i64 a, .int .i64 i, .int .i64 b, .int .i64 j, .int .i64 n], .slice (some ⟨g, 0, none⟩) rs.length cap] w fun e w' => ∃ svs', e = .returned (.bool (turnS rs a b i j).1) ∧ Below W0.heap.size W0 w' ∧ RT w' W0.heap.size g cap (turnS rs a b i j).2 svs' := by
  have HB := Aside0.mk hb
  have HT := Aside0.mk hT
  have HA := Aside0.mk ha
  have HAL := Aside0.mk hal
  clear hb hT
  have HIa := Aside0.mk (show a.toNat < rs.length by omega)
  obtain ⟨xsa, hxa⟩ : ∃ xs, st rs a.toNat = xs := ⟨_, rfl⟩
  obtain ⟨Aa, ca, hva⟩ := RT.vl_ rs svs a.toNat xsa hxa
  have HXa := Aside0.mk hxa
  have HVa := Aside0.mk hva
  have HR := Aside0.mk (show (false, rs) = turnS rs a b i j by unfold turnS; rw [if_neg (by rw [hxa]; omega)])
  rw [← HR.out]
  have p1 : (0 ≤ a) = True := eq_true (by omega)
  have q1 : (a < 0) = False := eq_false (by omega)
  have p2 : (a < (rs.length : Int)) = True := eq_true (by omega)
  have q2 : ((rs.length : Int) ≤ a) = False := eq_false (by omega)
  have p3 : (a = b) = False := eq_false (by omega)
  have q3 : (a == b) = false := beq_eq_false_iff_ne.mpr (by omega)
  have r3 : (a != b) = true := by rw [bne, q3]; rfl
  clear ha hal hb0 hbl h
  clear hxa hva
  go_enter Try.func32, Try.ntmps32
  go_wp2_with (first | ((with_reducible refine gate_dst (N := 2) rfl ?_); refine box_event ?hg (N := 2) ?hd (cs := #[.int .i64 k, .int .i64 a, .int .i64 i, .int .i64 b, .int .i64 j, .int .i64 n]) (t := 29) ?hr ?_; (case hd => rfl); (case hg => rfl); (case hr => first | (go_simp; done) | (go_simp; rfl)); intro gm hg_ wv hbox hb; have BM := Aside0.mk hbox; have GM := Aside0.mk (Nat.le_of_eq hg_.symm); have NG := Aside0.mk (show g < gm by rw [hg_]; exact RT.lt HT.out); replace HB := Aside0.mk (below_step HB.out hb); replace HT := Aside0.mk (RT.below HT.out hb); clear hb hbox hg_; have hm1 : wv.cell? ⟨gm, 1, none⟩ = some (.int .i64 a) := (blk_cell BM.out 1).trans rfl; have hm3 : wv.cell? ⟨gm, 3, none⟩ = some (.int .i64 b) := (blk_cell BM.out 3).trans rfl; have hs1 := (RT.cell1 HT.out (j := a.toNat) HIa.out).trans (congrArg some HVa.out)))
  first | go_ret | go_ret2
  exact ⟨svs, rfl, HB.out, HT.out⟩
set_option maxHeartbeats 8000000 in
set_option maxRecDepth 100000 in
theorem turn_n2 (W0 : World) (g cap : Nat) (rs : List Rt) (svs : List (Option Addr × Nat)) (k a i b j n : Int) (w : World) (hb : Below W0.heap.size W0 w) (hT : RT w W0.heap.size g cap rs svs) (ha : 0 ≤ a) (hal : a < rs.length) (hb0 : 0 ≤ b) (hbl : b < rs.length) (h : a = b ∧ i < 0) : Calls Try.prog 32 #[.agg #[.int .i64 k, .int .i64 a, .int .i64 i, .int .i64 b, .int .i64 j, .int .i64 n], .slice (some ⟨g, 0, none⟩) rs.length cap] w fun e w' => ∃ svs', e = .returned (.bool (turnS rs a b i j).1) ∧ Below W0.heap.size W0 w' ∧ RT w' W0.heap.size g cap (turnS rs a b i j).2 svs' := by
  have HB := Aside0.mk hb
  have HT := Aside0.mk hT
  have HA := Aside0.mk ha
  have HAL := Aside0.mk hal
  clear hb hT
  have HIa := Aside0.mk (show a.toNat < rs.length by omega)
  obtain ⟨xsa, hxa⟩ : ∃ xs, st rs a.toNat = xs := ⟨_, rfl⟩
  obtain ⟨Aa, ca, hva⟩ := RT.vl_ rs svs a.toNat xsa hxa
  have HXa := Aside0.mk hxa
  have HVa := Aside0.mk hva
  have HR := Aside0.mk (show (false, rs) = turnS rs a b i j by unfold turnS; rw [if_neg (by rw [hxa]; omega)])
  rw [← HR.out]
  have p4 : (0 ≤ a) = True := eq_true (by omega)
  have q4 : (a < 0) = False := eq_false (by omega)
  have p5 : (a < (rs.length : Int)) = True := eq_true (by omega)
  have q5 : ((rs.length : Int) ≤ a) = False := eq_false (by omega)
  have p6 : (a = b) = True := eq_true (by omega)
  have q6 : (a == b) = true := beq_iff_eq.mpr (by omega)
  have r6 : (a != b) = false := by rw [bne, q6]; rfl
  have p7 : (i < 0) = True := eq_true (by omega)
  have q7 : (0 ≤ i) = False := eq_false (by omega)
  clear ha hal hb0 hbl h
  clear hxa hva
  go_enter Try.func32, Try.ntmps32
  go_wp2_with (first | ((with_reducible refine gate_dst (N := 2) rfl ?_); refine box_event ?hg (N := 2) ?hd (cs := #[.int .i64 k, .int .i64 a, .int .i64 i, .int .i64 b, .int .i64 j, .int .i64 n]) (t := 29) ?hr ?_; (case hd => rfl); (case hg => rfl); (case hr => first | (go_simp; done) | (go_simp; rfl)); intro gm hg_ wv hbox hb; have BM := Aside0.mk hbox; have GM := Aside0.mk (Nat.le_of_eq hg_.symm); have NG := Aside0.mk (show g < gm by rw [hg_]; exact RT.lt HT.out); replace HB := Aside0.mk (below_step HB.out hb); replace HT := Aside0.mk (RT.below HT.out hb); clear hb hbox hg_; have hm1 : wv.cell? ⟨gm, 1, none⟩ = some (.int .i64 a) := (blk_cell BM.out 1).trans rfl; have hm2 : wv.cell? ⟨gm, 2, none⟩ = some (.int .i64 i) := (blk_cell BM.out 2).trans rfl; have hm3 : wv.cell? ⟨gm, 3, none⟩ = some (.int .i64 b) := (blk_cell BM.out 3).trans rfl; have hs1 := (RT.cell1 HT.out (j := a.toNat) HIa.out).trans (congrArg some HVa.out)))
  first | go_ret | go_ret2
  exact ⟨svs, rfl, HB.out, HT.out⟩
set_option maxHeartbeats 8000000 in
set_option maxRecDepth 100000 in
theorem turn_n3 (W0 : World) (g cap : Nat) (rs : List Rt) (svs : List (Option Addr × Nat)) (k a i b j n : Int) (w : World) (hb : Below W0.heap.size W0 w) (hT : RT w W0.heap.size g cap rs svs) (ha : 0 ≤ a) (hal : a < rs.length) (hb0 : 0 ≤ b) (hbl : b < rs.length) (h : a = b ∧ 0 ≤ i ∧ j ≤ i) : Calls Try.prog 32 #[.agg #[.int .i64 k, .int .i64 a, .int .i64 i, .int .i64 b, .int .i64 j, .int .i64 n], .slice (some ⟨g, 0, none⟩) rs.length cap] w fun e w' => ∃ svs', e = .returned (.bool (turnS rs a b i j).1) ∧ Below W0.heap.size W0 w' ∧ RT w' W0.heap.size g cap (turnS rs a b i j).2 svs' := by
  have HB := Aside0.mk hb
  have HT := Aside0.mk hT
  have HA := Aside0.mk ha
  have HAL := Aside0.mk hal
  clear hb hT
  have HIa := Aside0.mk (show a.toNat < rs.length by omega)
  obtain ⟨xsa, hxa⟩ : ∃ xs, st rs a.toNat = xs := ⟨_, rfl⟩
  obtain ⟨Aa, ca, hva⟩ := RT.vl_ rs svs a.toNat xsa hxa
  have HXa := Aside0.mk hxa
  have HVa := Aside0.mk hva
  have HR := Aside0.mk (show (false, rs) = turnS rs a b i j by unfold turnS; rw [if_neg (by rw [hxa]; omega)])
  rw [← HR.out]
  have p8 : (0 ≤ a) = True := eq_true (by omega)
  have q8 : (a < 0) = False := eq_false (by omega)
  have p9 : (a < (rs.length : Int)) = True := eq_true (by omega)
  have q9 : ((rs.length : Int) ≤ a) = False := eq_false (by omega)
  have p10 : (a = b) = True := eq_true (by omega)
  have q10 : (a == b) = true := beq_iff_eq.mpr (by omega)
  have r10 : (a != b) = false := by rw [bne, q10]; rfl
  have p11 : (i < 0) = False := eq_false (by omega)
  have q11 : (0 ≤ i) = True := eq_true (by omega)
  have p12 : (j ≤ i) = True := eq_true (by omega)
  have q12 : (i < j) = False := eq_false (by omega)
  clear ha hal hb0 hbl h
  clear hxa hva
  go_enter Try.func32, Try.ntmps32
  go_wp2_with (first | ((with_reducible refine gate_dst (N := 2) rfl ?_); refine box_event ?hg (N := 2) ?hd (cs := #[.int .i64 k, .int .i64 a, .int .i64 i, .int .i64 b, .int .i64 j, .int .i64 n]) (t := 29) ?hr ?_; (case hd => rfl); (case hg => rfl); (case hr => first | (go_simp; done) | (go_simp; rfl)); intro gm hg_ wv hbox hb; have BM := Aside0.mk hbox; have GM := Aside0.mk (Nat.le_of_eq hg_.symm); have NG := Aside0.mk (show g < gm by rw [hg_]; exact RT.lt HT.out); replace HB := Aside0.mk (below_step HB.out hb); replace HT := Aside0.mk (RT.below HT.out hb); clear hb hbox hg_; have hm1 : wv.cell? ⟨gm, 1, none⟩ = some (.int .i64 a) := (blk_cell BM.out 1).trans rfl; have hm2 : wv.cell? ⟨gm, 2, none⟩ = some (.int .i64 i) := (blk_cell BM.out 2).trans rfl; have hm3 : wv.cell? ⟨gm, 3, none⟩ = some (.int .i64 b) := (blk_cell BM.out 3).trans rfl; have hm4 : wv.cell? ⟨gm, 4, none⟩ = some (.int .i64 j) := (blk_cell BM.out 4).trans rfl; have hs1 := (RT.cell1 HT.out (j := a.toNat) HIa.out).trans (congrArg some HVa.out)))
  first | go_ret | go_ret2
  exact ⟨svs, rfl, HB.out, HT.out⟩
set_option maxHeartbeats 8000000 in
set_option maxRecDepth 100000 in
theorem turn_n4 (W0 : World) (g cap : Nat) (rs : List Rt) (svs : List (Option Addr × Nat)) (k a i b j n : Int) (w : World) (hb : Below W0.heap.size W0 w) (hT : RT w W0.heap.size g cap rs svs) (ha : 0 ≤ a) (hal : a < rs.length) (hb0 : 0 ≤ b) (hbl : b < rs.length) (h : a = b ∧ 0 ≤ i ∧ i < j ∧ ((st rs a.toNat).length : Int) ≤ j) : Calls Try.prog 32 #[.agg #[.int .i64 k, .int .i64 a, .int .i64 i, .int .i64 b, .int .i64 j, .int .i64 n], .slice (some ⟨g, 0, none⟩) rs.length cap] w fun e w' => ∃ svs', e = .returned (.bool (turnS rs a b i j).1) ∧ Below W0.heap.size W0 w' ∧ RT w' W0.heap.size g cap (turnS rs a b i j).2 svs' := by
  have HB := Aside0.mk hb
  have HT := Aside0.mk hT
  have HA := Aside0.mk ha
  have HAL := Aside0.mk hal
  clear hb hT
  have HIa := Aside0.mk (show a.toNat < rs.length by omega)
  obtain ⟨xsa, hxa⟩ : ∃ xs, st rs a.toNat = xs := ⟨_, rfl⟩
  rw [hxa] at h
  obtain ⟨Aa, ca, hva⟩ := RT.vl_ rs svs a.toNat xsa hxa
  have HXa := Aside0.mk hxa
  have HVa := Aside0.mk hva
  have HR := Aside0.mk (show (false, rs) = turnS rs a b i j by unfold turnS; rw [if_neg (by rw [hxa]; omega)])
  rw [← HR.out]
  have p13 : (0 ≤ a) = True := eq_true (by omega)
  have q13 : (a < 0) = False := eq_false (by omega)
  have p14 : (a < (rs.length : Int)) = True := eq_true (by omega)
  have q14 : ((rs.length : Int) ≤ a) = False := eq_false (by omega)
  have p15 : (a = b) = True := eq_true (by omega)
  have q15 : (a == b) = true := beq_iff_eq.mpr (by omega)
  have r15 : (a != b) = false := by rw [bne, q15]; rfl
  have p16 : (i < 0) = False := eq_false (by omega)
  have q16 : (0 ≤ i) = True := eq_true (by omega)
  have p17 : (j ≤ i) = False := eq_false (by omega)
  have q17 : (i < j) = True := eq_true (by omega)
  have p18 : ((xsa.length : Int) ≤ j) = True := eq_true (by omega)
  have q18 : (j < (xsa.length : Int)) = False := eq_false (by omega)
  clear ha hal hb0 hbl h
  clear hxa hva
  go_enter Try.func32, Try.ntmps32
  go_wp2_with (first | ((with_reducible refine gate_dst (N := 2) rfl ?_); refine box_event ?hg (N := 2) ?hd (cs := #[.int .i64 k, .int .i64 a, .int .i64 i, .int .i64 b, .int .i64 j, .int .i64 n]) (t := 29) ?hr ?_; (case hd => rfl); (case hg => rfl); (case hr => first | (go_simp; done) | (go_simp; rfl)); intro gm hg_ wv hbox hb; have BM := Aside0.mk hbox; have GM := Aside0.mk (Nat.le_of_eq hg_.symm); have NG := Aside0.mk (show g < gm by rw [hg_]; exact RT.lt HT.out); replace HB := Aside0.mk (below_step HB.out hb); replace HT := Aside0.mk (RT.below HT.out hb); clear hb hbox hg_; have hm1 : wv.cell? ⟨gm, 1, none⟩ = some (.int .i64 a) := (blk_cell BM.out 1).trans rfl; have hm2 : wv.cell? ⟨gm, 2, none⟩ = some (.int .i64 i) := (blk_cell BM.out 2).trans rfl; have hm3 : wv.cell? ⟨gm, 3, none⟩ = some (.int .i64 b) := (blk_cell BM.out 3).trans rfl; have hm4 : wv.cell? ⟨gm, 4, none⟩ = some (.int .i64 j) := (blk_cell BM.out 4).trans rfl; have hs1 := (RT.cell1 HT.out (j := a.toNat) HIa.out).trans (congrArg some HVa.out)))
  first | go_ret | go_ret2
  exact ⟨svs, rfl, HB.out, HT.out⟩
set_option maxHeartbeats 8000000 in
set_option maxRecDepth 100000 in
theorem turn_y (W0 : World) (g cap : Nat) (rs : List Rt) (svs : List (Option Addr × Nat)) (k a i b j n : Int) (w : World) (hb : Below W0.heap.size W0 w) (hT : RT w W0.heap.size g cap rs svs) (ha : 0 ≤ a) (hal : a < rs.length) (hb0 : 0 ≤ b) (hbl : b < rs.length) (h : a = b ∧ 0 ≤ i ∧ i < j ∧ j < ((st rs a.toNat).length : Int)) : Calls Try.prog 32 #[.agg #[.int .i64 k, .int .i64 a, .int .i64 i, .int .i64 b, .int .i64 j, .int .i64 n], .slice (some ⟨g, 0, none⟩) rs.length cap] w fun e w' => ∃ svs', e = .returned (.bool (turnS rs a b i j).1) ∧ Below W0.heap.size W0 w' ∧ RT w' W0.heap.size g cap (turnS rs a b i j).2 svs' := by
  have HR := Aside0.mk (show (true, rs.set a.toNat (tr rs a.toNat, revS (st rs a.toNat) i.toNat j.toNat)) = turnS rs a b i j by unfold turnS; rw [if_pos h])
  obtain ⟨i, rfl⟩ := Int.eq_ofNat_of_zero_le h.2.1
  obtain ⟨j, rfl⟩ := Int.eq_ofNat_of_zero_le (show 0 ≤ j by omega)
  obtain ⟨xsa, hxa⟩ : ∃ xs, st rs a.toNat = xs := ⟨_, rfl⟩
  obtain ⟨ba, ca, hva, hbba, hbla⟩ := RT.form hT (by omega) hxa (by rw [← hxa]; omega)
  have HXa := Aside0.mk hxa
  have HVa := Aside0.mk hva
  have HBBa := Aside0.mk hbba
  have HBLa := Aside0.mk hbla
  have HB := Aside0.mk hb
  have HT := Aside0.mk hT
  have HA := Aside0.mk ha
  have HAL := Aside0.mk hal
  clear hb hT
  have HIa := Aside0.mk (show a.toNat < rs.length by omega)
  rw [hxa] at h
  have HJL := Aside0.mk (show j < xsa.length by omega)
  have HIJ := Aside0.mk (show i ≤ j by omega)
  have hmax : xsa.length ≤ maxLen := by
    have := ownMax (ownAt HT.out HIa.out hxa hva)
    omega
  have HW := Aside0.mk (show wrap64 ((j : Int) + 1) = ((j + 1 : Nat) : Int) by unfold maxLen at hmax; unfold wrap64; omega)
  have HN := Aside0.mk (ownCap (ownAt HT.out HIa.out hxa hva))
  clear hmax
  have hs : ∀ w, (Instr.slice 33 (.slice (some ⟨ba, 0, none⟩) xsa.length ca) (some (.int .i64 (i : Int))) (some (.int .i64 ((j : Int) + 1))) none).run Try.prog w = .ok (.slice (some ⟨ba, i, none⟩) (j + 1 - i) (ca - i)) w := fun w => sl_mid w ba xsa.length ca i (j + 1) (by omega) (by omega) HN.out (by have := HN.out; omega)
  have hci : (ca = i) = False := eq_false (by have := HN.out; omega)
  have hjc : ((j : Int) + 1 ≤ (ca : Int)) = True := eq_true (by have := HN.out; omega)
  have hj0 : (0 ≤ (j : Int) + 1) = True := eq_true (by omega)
  have hij : (i ≤ j + 1) = True := eq_true (by omega)
  rw [← HR.out]
  simp only [Int.toNat_natCast]
  rw [hxa]
  have p19 : (0 ≤ a) = True := eq_true (by omega)
  have q19 : (a < 0) = False := eq_false (by omega)
  have p20 : (a < (rs.length : Int)) = True := eq_true (by omega)
  have q20 : ((rs.length : Int) ≤ a) = False := eq_false (by omega)
  have p21 : (a = b) = True := eq_true (by omega)
  have q21 : (a == b) = true := beq_iff_eq.mpr (by omega)
  have r21 : (a != b) = false := by rw [bne, q21]; rfl
  have p22 : ((i : Int) < 0) = False := eq_false (by omega)
  have q22 : (0 ≤ (i : Int)) = True := eq_true (by omega)
  have p23 : ((j : Int) ≤ (i : Int)) = False := eq_false (by omega)
  have q23 : ((i : Int) < (j : Int)) = True := eq_true (by omega)
  have p24 : ((xsa.length : Int) ≤ (j : Int)) = False := eq_false (by omega)
  have q24 : ((j : Int) < (xsa.length : Int)) = True := eq_true (by omega)
  clear ha hal hb0 hbl h
  clear hxa hva hbba hbla
  have hw1 := HW.out
  go_enter Try.func32, Try.ntmps32
  go_wp2_with (first | ((with_reducible refine gate_dst (N := 2) rfl ?_); refine box_event ?hg (N := 2) ?hd (cs := #[.int .i64 k, .int .i64 a, .int .i64 i, .int .i64 b, .int .i64 j, .int .i64 n]) (t := 29) ?hr ?_; (case hd => rfl); (case hg => rfl); (case hr => first | (go_simp; done) | (go_simp; rfl)); intro gm hg_ wv hbox hb; have BM := Aside0.mk hbox; have GM := Aside0.mk (Nat.le_of_eq hg_.symm); have NG := Aside0.mk (show g < gm by rw [hg_]; exact RT.lt HT.out); replace HB := Aside0.mk (below_step HB.out hb); replace HT := Aside0.mk (RT.below HT.out hb); clear hb hbox hg_; have hm1 : wv.cell? ⟨gm, 1, none⟩ = some (.int .i64 a) := (blk_cell BM.out 1).trans rfl; have hm2 : wv.cell? ⟨gm, 2, none⟩ = some (.int .i64 i) := (blk_cell BM.out 2).trans rfl; have hm3 : wv.cell? ⟨gm, 3, none⟩ = some (.int .i64 b) := (blk_cell BM.out 3).trans rfl; have hm4 : wv.cell? ⟨gm, 4, none⟩ = some (.int .i64 j) := (blk_cell BM.out 4).trans rfl; have hs1 := (RT.cell1 HT.out (j := a.toNat) HIa.out).trans (congrArg some HVa.out)) | (go_at_call 42; (with_reducible refine (rev W0.heap.size xsa i j ba ca _ _ (ownAt HT.out HIa.out HXa.out HVa.out) HIJ.out HJL.out).mono ?_); rintro e wv ⟨rfl, ho, hg⟩; replace HB := Aside0.mk (HB.out.grown hg (below_size HB.out) (fun q hq => by injection hq with hq; exact hq ▸ HBBa.out)); replace HT := Aside0.mk (RT.inplace (j := a.toNat) (s1 := revS xsa i j) HT.out HIa.out (by rw [HXa.out, revS_len _ _ _ HIJ.out HJL.out]) (by rw [HVa.out]; exact hg) (by rw [HVa.out]; exact RI_of ho (revS_len _ _ _ HIJ.out HJL.out).symm)); clear ho hg))
  first | go_ret | go_ret2
  exact ⟨svs, rfl, HB.out, HT.out⟩
end Go.Proofs.Ytcofibbgdnbejaa.Mv4
