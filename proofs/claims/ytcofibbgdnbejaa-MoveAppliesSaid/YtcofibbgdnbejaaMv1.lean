/- slices.Delete and slices.Reverse at rows of whole numbers that a call owns, as the library's text goes, in the words of an own row. -/
import Derived.Test.YtcofibbgdnbejaaInts
import Derived.Shelf.Slices.Cells
import Derived.Shelf.Slices.Empties
namespace Go.Proofs.Ytcofibbgdnbejaa.Mv1
open Go.RowKit Go.Proofs.YtcofibbgdnbejaaW.PrintWords Go.Proofs.YtcofibbgdnbejaaW.PrintLast Go.Proofs.YtcofibbgdnbejaaW.PrintMore Go.Proofs.Ytcofibbgdnbejaa.Ints
set_option linter.unusedVariables false
set_option linter.unusedSimpArgs false
def laysD_ren : Go.Shelf.Ren := ⟨fun | 23 => 39 | n => n, fun | 22 => 33 | n => n, fun n => n⟩
theorem laysD : Lays2.n23 Try.prog laysD_ren := {
  mixed := (by kernel_rfl)
  f23 := Try.func39.trans (congrArg some (by kernel_rfl))
  t0 := Try.underlying0
  a0 := Try.isAgg0
  z0 := Try.sizeOf0
  v0 := Try.zeroValue0
  t3 := Try.underlying3
  a3 := Try.isAgg3
  z3 := Try.sizeOf3
  v3 := Try.zeroValue3
  t4 := Try.underlying4
  a4 := Try.isAgg4
  z4 := Try.sizeOf4
  v4 := Try.zeroValue4
  t22 := Try.underlying33
  a22 := Try.isAgg33
  z22 := Try.sizeOf33
  v22 := Try.zeroValue33
  i3 := (by kernel_rfl) }
def laysR_ren : Go.Shelf.Ren := ⟨fun | 112 => 42 | n => n, fun | 28 => 33 | n => n, fun n => n⟩
theorem laysR : Lays.n112 Try.prog laysR_ren := {
  mixed := (by kernel_rfl)
  f112 := Try.func42.trans (congrArg some (by kernel_rfl))
  t0 := Try.underlying0
  a0 := Try.isAgg0
  z0 := Try.sizeOf0
  v0 := Try.zeroValue0
  t3 := Try.underlying3
  a3 := Try.isAgg3
  z3 := Try.sizeOf3
  v3 := Try.zeroValue3
  t4 := Try.underlying4
  a4 := Try.isAgg4
  z4 := Try.sizeOf4
  v4 := Try.zeroValue4
  t28 := Try.underlying33
  a28 := Try.isAgg33
  z28 := Try.sizeOf33
  v28 := Try.zeroValue33
 }
theorem cells_getD {w : World} {g : Nat} {cur : Array Value} {e : TypeId} {xs : List Int} (h : w.heap[g]? = some (.cells cur e (0, 0))) (ht : cur.toList.take xs.length = es xs) (o : Nat) : ∀ j, j < (xs.drop o).length → w.cell? ⟨g, o + j, none⟩ = some (.int .i64 ((xs.drop o).getD j 0)) := by
  intro j hj
  rw [List.length_drop] at hj
  have := cells_of h ht (o + j) (.int .i64 (xs.getD (o + j) 0)) (by simp [es, encs, show o + j < xs.length by omega])
  rw [Nat.zero_add] at this
  rw [this]
  simp [List.getD]
theorem len_cur {cur : Array Value} {xs : List Int} (ht : cur.toList.take xs.length = es xs) : xs.length ≤ cur.size := by
  have h1 := congrArg List.length ht
  have h2 := Array.length_toList (xs := cur)
  rw [List.length_take, es_len] at h1
  omega
/-- A piece of an own row is laid anew: the row reads as it says. -/
theorem own_splice {w : World} {base g cap n : Nat} {xs ys : List Int} (h : w.ownsRow base 3 1 (.slice (some ⟨g, 0, none⟩) xs.length cap) xs.length (es xs)) (o : Nat) (ho : o + ys.length ≤ xs.length) (q : Nat) (m : Nat) (hm : m ≤ xs.length) :
    ((w.drewN q).setCells g o (es ys)).ownsRow base 3 1 (.slice (some ⟨g, 0, none⟩) m cap) m (es ((xs.take o ++ ys ++ xs.drop (o + ys.length)).take m)) := by
  rcases h.2 with ⟨h1, _⟩ | ⟨g', cap', cur, hv, hbg, hg, hnc, hcm, hcs, hct⟩
  · cases h1
  · simp only [Value.slice.injEq, Option.some.injEq, Addr.mk.injEq, and_true, true_and] at hv
    obtain ⟨rfl, rfl⟩ := hv
    rw [Nat.mul_one] at hcs hct
    have hl := len_cur hct
    obtain ⟨cur', k1, k2, k3⟩ := setCells_row (g := g) (es ys) o (w.drewN q) cur hg (by rw [es_len]; omega)
    refine own_of k1 hbg (Nat.le_trans hm hnc) hcm (by omega) (by rw [es_len, List.length_take]; simp; omega) ?_
    rw [k3, es_len, es_take, es_app, es_app, es_take, es_drop, ← hct]
    have hcl : cur.toList.length = cur.size := Array.length_toList
    have e1 : (cur.toList.take xs.length).take o = cur.toList.take o := by rw [List.take_take, Nat.min_eq_left (by omega)]
    rw [e1]
    have e2 : cur.toList.drop (o + ys.length) = (cur.toList.take xs.length).drop (o + ys.length) ++ cur.toList.drop xs.length := by
      conv => lhs; rw [← List.take_append_drop xs.length cur.toList]
      rw [List.drop_append_of_le_length (by rw [List.length_take]; omega)]
    rw [e2, ← List.append_assoc]
    rw [List.take_append_of_le_length]
    rw [List.length_append, List.length_append, es_len, List.length_take, List.length_drop, List.length_take]
    omega
theorem grown_drewN (w : World) (n : Nat) (row : Option Nat) : w.grownBy (w.drewN n) row := ⟨rfl, rfl, rfl, Nat.le_refl _, fun _ _ _ => rfl⟩
set_option maxHeartbeats 4000000 in
theorem del (base : Nat) (xs : List Int) (i j : Nat) (A : Option Addr) (c : Nat) (w : World) (ho : w.ownsRow base 3 1 (.slice A xs.length c) xs.length (es xs)) (hij : i ≤ j) (hj : j ≤ xs.length) :
    Calls Try.prog 39 #[.slice A xs.length c, .int .i64 (i : Int), .int .i64 (j : Int)] w fun e w' => e = .returned (.slice A (xs.take i ++ xs.drop j).length c) ∧ w'.ownsRow base 3 1 (.slice A (xs.take i ++ xs.drop j).length c) (xs.take i ++ xs.drop j).length (es (xs.take i ++ xs.drop j)) ∧ w.grownBy w' (Value.slice A xs.length c).ownBlock := by
  have hlen : (xs.take i ++ xs.drop j).length = xs.length - (j - i) := by rw [List.length_append, List.length_take, List.length_drop]; omega
  by_cases h0 : xs.length = 0
  · obtain rfl := List.eq_nil_of_length_eq_zero h0
    obtain rfl : j = 0 := by simpa using hj
    obtain rfl : i = 0 := by omega
    exact (Any.slices_Delete_int_empty laysD A c w).mono fun e w' ⟨he, hw⟩ => ⟨he, by rw [hw]; exact ho, by rw [hw]; exact ⟨rfl, rfl, rfl, Nat.le_refl _, fun _ _ _ => rfl⟩⟩
  · rcases ho.2 with ⟨h1, h2⟩ | ⟨g, cap, cur, hv, hbg, hg, hnc, hcm, hcs, hct⟩
    · exact absurd h2 h0
    · simp only [Value.slice.injEq, true_and] at hv
      obtain ⟨rfl, rfl⟩ := hv
      have hct' := hct
      rw [Nat.mul_one] at hct'
      have hcc := cells_getD hg hct' 0
      simp only [List.drop_zero] at hcc
      have h := Any.slices_Delete_int_cells laysD g 0 xs.length c i j xs w (Nat.le_refl _) hnc hcm hij hj hcc (fun k hk => blk_frozen hg _)
      refine h.mono ?_
      rintro e w' ⟨rfl, q, rfl⟩
      rw [hlen]
      refine ⟨rfl, ?_, grown_trans (grown_drewN _ _ _) (grown_set _ g 0 _)⟩
      have hys : (xs.take i ++ xs.drop j ++ List.replicate (j - i) (0 : Int)).length = xs.length := by
        rw [List.length_append, List.length_append, List.length_take, List.length_drop, List.length_replicate]
        omega
      have := own_splice (n := 0) ho (ys := xs.take i ++ xs.drop j ++ List.replicate (j - i) (0 : Int)) 0 (by rw [Nat.zero_add, hys]; exact Nat.le_refl _) q (xs.length - (j - i)) (by omega)
      rw [List.take_length]
      have e1 : ((xs.take 0 ++ (xs.take i ++ xs.drop j ++ List.replicate (j - i) (0 : Int)) ++ xs.drop (0 + (xs.take i ++ xs.drop j ++ List.replicate (j - i) (0 : Int)).length)).take (xs.length - (j - i))) = xs.take i ++ xs.drop j := by
        rw [List.take_zero, List.nil_append, Nat.zero_add, hys, List.drop_length, List.append_nil]
        exact take_app _ _ _ hlen
      rw [e1] at this
      exact this
/-- The numbers from i to j stand in the order from behind. -/
def revS (xs : List Int) (i j : Nat) : List Int := xs.take i ++ ((xs.drop i).take (j + 1 - i)).reverse ++ xs.drop (j + 1)
set_option maxHeartbeats 4000000 in
theorem rev (base : Nat) (xs : List Int) (i j : Nat) (g c c' : Nat) (w : World) (ho : w.ownsRow base 3 1 (.slice (some ⟨g, 0, none⟩) xs.length c) xs.length (es xs)) (hij : i ≤ j) (hj : j < xs.length) :
    Calls Try.prog 42 #[.slice (some ⟨g, i, none⟩) (j + 1 - i) c'] w fun e w' => e = .returned (.tuple #[]) ∧ w'.ownsRow base 3 1 (.slice (some ⟨g, 0, none⟩) xs.length c) xs.length (es (revS xs i j)) ∧ w.grownBy w' (some g) := by
  rcases ho.2 with ⟨h1, h2⟩ | ⟨g', cap, cur, hv, hbg, hg, hnc, hcm, hcs, hct⟩
  · cases h1
  · simp only [Value.slice.injEq, Option.some.injEq, Addr.mk.injEq, and_true, true_and] at hv
    obtain ⟨rfl, rfl⟩ := hv
    have hmax : xs.length ≤ 9223372036854775807 := by unfold maxLen at hcm; omega
    have hct' := hct
    rw [Nat.mul_one] at hct'
    have h := Any.slices_Reverse_int_cells laysR g i (j + 1 - i) c' (xs.drop i) w (by rw [List.length_drop]; omega) (by omega) (cells_getD hg hct' i) (fun k hk => blk_frozen hg _)
    refine h.mono ?_
    rintro e w' ⟨rfl, q, rfl⟩
    refine ⟨rfl, ?_, grown_trans (grown_drewN _ _ _) (grown_set _ g i _)⟩
    have hyl : (((xs.drop i).take (j + 1 - i)).reverse).length = j + 1 - i := by rw [List.length_reverse, List.length_take, List.length_drop]; omega
    have := own_splice (n := 0) ho (ys := ((xs.drop i).take (j + 1 - i)).reverse) i (by rw [hyl]; omega) q xs.length (Nat.le_refl _)
    rw [hyl, show i + (j + 1 - i) = j + 1 by omega] at this
    have e1 : (xs.take i ++ ((xs.drop i).take (j + 1 - i)).reverse ++ xs.drop (j + 1)).take xs.length = xs.take i ++ ((xs.drop i).take (j + 1 - i)).reverse ++ xs.drop (j + 1) := List.take_of_length_le (by rw [List.length_append, List.length_append, hyl, List.length_take, List.length_drop]; omega)
    rw [e1] at this
    exact this
end Go.Proofs.Ytcofibbgdnbejaa.Mv1
