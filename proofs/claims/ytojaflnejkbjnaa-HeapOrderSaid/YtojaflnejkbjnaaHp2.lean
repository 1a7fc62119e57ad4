/- heap.Less, and the methods of the program's row of items, over a row in memory of the heap's own. -/
import Derived.Test.YtojaflnejkbjnaaHp1
namespace Go.Proofs.Ytojaflnejkbjnaa.Hp2
open Go.RowKit Go.Proofs.YtojaflnejkbjnaaW.PrintWords Go.Proofs.YtojaflnejkbjnaaW.PrintLast Go.Proofs.YtojaflnejkbjnaaW.PrintMore Go.Proofs.Ytojaflnejkbjnaa.Hp1
attribute [local go_sem] max2_int min2_int max_two min_two max_three min_three max_four min_four
set_option linter.unusedVariables false
set_option linter.unusedSimpArgs false
set_option maxHeartbeats 8000000 in
set_option maxRecDepth 100000 in
theorem less_ (x0 x1 x2 y0 y1 y2 : Int) (w : World) : Calls Try.prog 12 #[.agg #[.int .i64 x0, .int .i64 x1, .int .i64 x2], .agg #[.int .i64 y0, .int .i64 y1, .int .i64 y2]] w fun e w' => e = .returned (.bool (lt3 (x0, x1, x2) (y0, y1, y2))) ∧ Below w.heap.size w w' := by
  obtain ⟨r, hr⟩ : ∃ r, lt3 (x0, x1, x2) (y0, y1, y2) = r := ⟨_, rfl⟩
  have HR := Aside0.mk hr
  rw [hr]
  clear hr
  go_enter Try.func12, Try.ntmps12
  go_wp2_with (first | ((with_reducible refine gate_dst (N := 2) rfl ?_); refine box_event ?hg (N := 2) ?hd (cs := #[.int .i64 x0, .int .i64 x1, .int .i64 x2]) (t := 33) ?hr ?_; (case hd => rfl); (case hg => rfl); (case hr => first | (go_simp; done) | (go_simp; rfl)); intro gp hg_ wv hbox hb; have HB := Aside0.mk hb; have Bp := Aside0.mk hbox; clear hbox hg_ hb) | ((with_reducible refine gate_dst (N := 3) rfl ?_); refine box_event ?hg (N := 3) ?hd (cs := #[.int .i64 y0, .int .i64 y1, .int .i64 y2]) (t := 33) ?hr ?_; (case hd => rfl); (case hg => rfl); (case hr => first | (go_simp; done) | (go_simp; rfl)); intro gq hg_ wv hbox hb; replace Bp := Aside0.mk (blk_below Bp.out hb); replace HB := Aside0.mk (below_step HB.out hb); have Bq := Aside0.mk hbox; clear hbox hg_ hb) | ((with_reducible refine gate_dst (N := 7) rfl ?_); refine wpList_load_row rfl 33 (.tmp 2) rfl gp rfl 33 #[.int .i64 x0, .int .i64 x1, .int .i64 x2] (0, 0) _ Bp.out Try.underlying33 rfl (by kernel_rfl) ?_) | ((with_reducible refine gate_dst (N := 8) rfl ?_); refine wpList_load_row rfl 33 (.tmp 3) rfl gq rfl 33 #[.int .i64 y0, .int .i64 y1, .int .i64 y2] (0, 0) _ Bq.out Try.underlying33 rfl (by kernel_rfl) ?_) | (go_at_call 20; (with_reducible refine (less20 (x0, x1, x2) (y0, y1, y2) _).mono ?_); rintro e wv ⟨rfl, hb⟩; rw [HR.out]; replace HB := Aside0.mk (below_step HB.out hb); clear hb))
  first | go_ret | go_ret2
  exact ⟨rfl, HB.out⟩
/-- Block b is a heap: its one cell holds v, a slice of the heap's own, whose items are xs. -/
def IsH (w : World) (base b : Nat) (v : Value) (xs : List It) : Prop := base ≤ b ∧ w.heap[b]? = some (.cells #[v] 49 (0, 0)) ∧ Kd.R kdi 33 w base (fun k => some k = v.ownBlock) v xs
def ri (xs : List It) (i : Nat) : It := xs.getD i (0, 0, 0)
theorem at_H {w : World} {A : Option Addr} {n : Nat} {xs : List It} (h : Kd.C kdi w A n xs) (i : Nat) (h1 : i < n) : ∃ ad, A = some ad ∧ w.cell? (ad.add (i * 3)) = some (.int .i64 (ri xs i).1) ∧ w.cell? ⟨(ad.add (i * 3)).block, (ad.add (i * 3)).off + 1, none⟩ = some (.int .i64 (ri xs i).2.1) ∧ w.cell? ⟨(ad.add (i * 3)).block, (ad.add (i * 3)).off + 2, none⟩ = some (.int .i64 (ri xs i).2.2) := by
  obtain ⟨ad, c, e, _, hK, hc0⟩ := Kd.C_get h ((0, 0, 0) : It) (i : Int) (by omega) (by omega)
  rw [Int.toNat_natCast] at hc0 hK
  have hc : ∀ j u, c[j]? = some u → w.cell? (ad.add (i * 3 + j)) = some u := hc0
  obtain ⟨_, _, rfl, rfl, ⟨_, _, rfl, rfl, rfl⟩⟩ := hK
  exact ⟨ad, e, hc 0 _ rfl, by rw [← add_field _ _ 1 (by omega)]; exact hc 1 _ rfl, by rw [← add_field _ _ 2 (by omega)]; exact hc 2 _ rfl⟩
theorem IsH.step {w w' : World} {base b : Nat} {v : Value} {xs : List It} (h : IsH w base b v xs) (hb : Below w.heap.size w w') : IsH w' base b v xs :=
  ⟨h.1, (hb.block _ (Array.getElem?_eq_some_iff.1 h.2.1).1).trans h.2.1, Kd.R_below h.2.2 hb⟩
theorem IsH.cell {w : World} {base b : Nat} {v : Value} {xs : List It} (h : IsH w base b v xs) : w.cell? ⟨b, 0, none⟩ = some v := by simp [World.cell?, h.2.1]
set_option maxHeartbeats 8000000 in
set_option maxRecDepth 100000 in
theorem len_ (base b : Nat) (A : Option Addr) (c n : Nat) (xs : List It) (w : World) (h : IsH w base b (.slice A n c) xs) : Calls Try.prog 19 #[.pointer (some ⟨b, 0, none⟩)] w fun e w' => e = .returned (.int .i64 (xs.length : Int)) ∧ Below w.heap.size w w' := by
  obtain rfl : n = xs.length := (Kd.R_reads' h.2.2).1
  have hc := h.cell
  clear h
  go_enter Try.func19, Try.ntmps19
  go_wp2
  first | go_ret | go_ret2
  exact ⟨rfl, Below.refl _ _⟩
theorem at3 {w : World} {base b : Nat} {ad : Addr} {c : Nat} {xs : List It} (h : IsH w base b (.slice (some ad) xs.length c) xs) {i : Nat} {x0 x1 x2 : Int} (hi : i < xs.length ∧ ri xs i = (x0, x1, x2)) : w.cell? (ad.add (i * 3)) = some (.int .i64 x0) ∧ w.cell? ⟨(ad.add (i * 3)).block, (ad.add (i * 3)).off + 1, none⟩ = some (.int .i64 x1) ∧ w.cell? ⟨(ad.add (i * 3)).block, (ad.add (i * 3)).off + 2, none⟩ = some (.int .i64 x2) := by
  obtain ⟨a, e, h1, h2, h3⟩ := at_H (Kd.R_reads' h.2.2).2.2 i hi.1
  cases e
  rw [hi.2] at h1 h2 h3
  exact ⟨h1, h2, h3⟩
set_option maxHeartbeats 8000000 in
set_option maxRecDepth 100000 in
theorem rless_ (base b : Nat) (A : Option Addr) (c n : Nat) (xs : List It) (i k : Nat) (hi : i < xs.length) (hk : k < xs.length) (w : World) (h : IsH w base b (.slice A n c) xs) : Calls Try.prog 45 #[.pointer (some ⟨b, 0, none⟩), .int .i64 (i : Int), .int .i64 (k : Int)] w fun e w' => e = .returned (.bool (lt3 (ri xs i) (ri xs k))) ∧ Below w.heap.size w w' := by
  obtain rfl : n = xs.length := (Kd.R_reads' h.2.2).1
  obtain ⟨ad, rfl, _⟩ := at_H (Kd.R_reads' h.2.2).2.2 i hi
  obtain ⟨⟨x0, x1, x2⟩, hx⟩ : ∃ x, ri xs i = x := ⟨_, rfl⟩
  obtain ⟨⟨y0, y1, y2⟩, hy⟩ : ∃ y, ri xs k = y := ⟨_, rfl⟩
  obtain ⟨r, hr⟩ : ∃ r, lt3 (ri xs i) (ri xs k) = r := ⟨_, rfl⟩
  rw [hr]
  rw [hx, hy] at hr
  have HR := Aside0.mk hr
  have HX := Aside0.mk (show i < xs.length ∧ ri xs i = (x0, x1, x2) from ⟨hi, hx⟩)
  have HY := Aside0.mk (show k < xs.length ∧ ri xs k = (y0, y1, y2) from ⟨hk, hy⟩)
  have HH := Aside0.mk h
  have HB := Aside0.mk (Below.refl w.heap.size w)
  have p1 : ((i : Int) < (xs.length : Int)) = True := eq_true (by omega)
  have p2 : ((k : Int) < (xs.length : Int)) = True := eq_true (by omega)
  have p3 : (0 ≤ (i : Int)) = True := eq_true (by omega)
  have p4 : (0 ≤ (k : Int)) = True := eq_true (by omega)
  clear hx hy hr hi hk h
  go_enter Try.func45, Try.ntmps45
  go_wp2
  obtain ⟨wv, hwv⟩ : ∃ wv, wv = w := ⟨_, rfl⟩
  rw [← hwv] at HH ⊢
  have HB := Aside0.mk (show Below w.heap.size w wv by rw [hwv]; exact Below.refl _ _)
  clear hwv
  refine start_ (n := 16) (S := fun w' => w'.cell? ⟨b, 0, none⟩ = some (.slice (some ad) xs.length c) ∧ w'.cell? (ad.add (i * 3)) = some (.int .i64 x0) ∧ w'.cell? ⟨(ad.add (i * 3)).block, (ad.add (i * 3)).off + 1, none⟩ = some (.int .i64 x1) ∧ w'.cell? ⟨(ad.add (i * 3)).block, (ad.add (i * 3)).off + 2, none⟩ = some (.int .i64 x2) ∧ w'.cell? (ad.add (k * 3)) = some (.int .i64 y0) ∧ w'.cell? ⟨(ad.add (k * 3)).block, (ad.add (k * 3)).off + 1, none⟩ = some (.int .i64 y1) ∧ w'.cell? ⟨(ad.add (k * 3)).block, (ad.add (k * 3)).off + 2, none⟩ = some (.int .i64 y2)) (ds := []) #[false, false, false, false, false, false, false, false, false, false, false, false, false, false, false, false] (by kernel_rfl) rfl rfl ⟨HH.out.cell, (at3 HH.out HX.out).1, (at3 HH.out HX.out).2.1, (at3 HH.out HX.out).2.2, (at3 HH.out HY.out).1, (at3 HH.out HY.out).2.1, (at3 HH.out HY.out).2.2⟩ (fun hHeld => ?_)
  replace HH := Aside0.mk (show IsH wv.drew base b _ xs from HH.out)
  replace HB := Aside0.mk (HB.out.drew)
  generalize wv.drew = wv at HH HB hHeld ⊢
  refine pure_ (i := 0) (N := some 7) (v := ?_) (a' := ?_) #[true, false, false, false, false, false, false, false, false, false, false, false, false, false, false, false] rfl rfl (by kernel_rfl) (fun _ _ _ h => h) (Or.inl ⟨by rfl, ?_⟩) ?_ ?_
  rotate_left
  · intro w'
    go_simp
    with_reducible rfl
  rotate_left
  · simp only [Act.put, List.setIfInBounds_toArray, List.set_cons_zero, List.set_cons_succ, i64_w, i32_w]
    rfl
  refine pure_ (i := 1) (N := some 8) (v := ?_) (a' := ?_) #[true, true, false, false, false, false, false, false, false, false, false, false, false, false, false, false] rfl rfl (by kernel_rfl) (fun _ _ _ h => h) (Or.inl ⟨by rfl, ?_⟩) ?_ ?_
  rotate_left
  · intro w'
    go_simp
    with_reducible rfl
  rotate_left
  · simp only [Act.put, List.setIfInBounds_toArray, List.set_cons_zero, List.set_cons_succ, i64_w, i32_w]
    rfl
  refine pure_ (i := 2) (N := some 9) (v := ?_) (a' := ?_) #[true, true, true, false, false, false, false, false, false, false, false, false, false, false, false, false] rfl rfl (by kernel_rfl) (fun _ _ _ h => h) (Or.inl ⟨by rfl, ?_⟩) ?_ ?_
  rotate_left
  · intro w'
    go_simp
    with_reducible rfl
  rotate_left
  · simp only [Act.put, List.setIfInBounds_toArray, List.set_cons_zero, List.set_cons_succ, i64_w, i32_w]
    rfl
  refine pure_ (i := 4) (N := some 11) (v := ?_) (a' := ?_) #[true, true, true, false, true, false, false, false, false, false, false, false, false, false, false, false] rfl rfl (by kernel_rfl) (fun _ _ _ h => h) (Or.inl ⟨by rfl, ?_⟩) ?_ ?_
  rotate_left
  · intro w'
    go_simp
    with_reducible rfl
  rotate_left
  · simp only [Act.put, List.setIfInBounds_toArray, List.set_cons_zero, List.set_cons_succ, i64_w, i32_w]
    rfl
  refine pure_ (i := 7) (N := some 14) (v := ?_) (a' := ?_) #[true, true, true, false, true, false, false, true, false, false, false, false, false, false, false, false] rfl rfl (by kernel_rfl) (fun _ _ _ h => h) (Or.inl ⟨by rfl, ?_⟩) ?_ ?_
  rotate_left
  · intro w'
    go_simp
    with_reducible rfl
  rotate_left
  · simp only [Act.put, List.setIfInBounds_toArray, List.set_cons_zero, List.set_cons_succ, i64_w, i32_w]
    rfl
  refine pure_ (i := 8) (N := some 15) (v := ?_) (a' := ?_) #[true, true, true, false, true, false, false, true, true, false, false, false, false, false, false, false] rfl rfl (by kernel_rfl) (fun _ _ _ h => h) (Or.inl ⟨by rfl, ?_⟩) ?_ ?_
  rotate_left
  · intro w'
    go_simp
    with_reducible rfl
  rotate_left
  · simp only [Act.put, List.setIfInBounds_toArray, List.set_cons_zero, List.set_cons_succ, i64_w, i32_w]
    rfl
  refine pure_ (i := 9) (N := some 16) (v := ?_) (a' := ?_) #[true, true, true, false, true, false, false, true, true, true, false, false, false, false, false, false] rfl rfl (by kernel_rfl) (fun _ _ _ h => h) (Or.inl ⟨by rfl, ?_⟩) ?_ ?_
  rotate_left
  · intro w'
    go_simp
    with_reducible rfl
  rotate_left
  · simp only [Act.put, List.setIfInBounds_toArray, List.set_cons_zero, List.set_cons_succ, i64_w, i32_w]
    rfl
  refine pure_ (i := 11) (N := some 18) (v := ?_) (a' := ?_) #[true, true, true, false, true, false, false, true, true, true, false, true, false, false, false, false] rfl rfl (by kernel_rfl) (fun _ _ _ h => h) (Or.inl ⟨by rfl, ?_⟩) ?_ ?_
  rotate_left
  · intro w'
    go_simp
    with_reducible rfl
  rotate_left
  · simp only [Act.put, List.setIfInBounds_toArray, List.set_cons_zero, List.set_cons_succ, i64_w, i32_w]
    rfl
  refine take_ (i := 3) (N := some 10) (v := ?_) (a' := ?_) #[true, true, true, true, true, false, false, true, true, true, false, true, false, false, false, false] rfl rfl (by kernel_rfl) (fun _ _ _ h => h) (Or.inl ⟨by rfl, ?_⟩) hHeld ?_ ?_
  rotate_left
  · rintro w' ⟨s0, s1, s2, s3, s4, s5, s6⟩
    go_simp
    with_reducible rfl
  rotate_left
  · simp only [Act.put, List.setIfInBounds_toArray, List.set_cons_zero, List.set_cons_succ, i64_w, i32_w]
    rfl
  refine pure_ (i := 5) (N := some 12) (v := ?_) (a' := ?_) #[true, true, true, true, true, true, false, true, true, true, false, true, false, false, false, false] rfl rfl (by kernel_rfl) (fun _ _ _ h => h) (Or.inl ⟨by rfl, ?_⟩) ?_ ?_
  rotate_left
  · intro w'
    go_simp
    with_reducible rfl
  rotate_left
  · simp only [Act.put, List.setIfInBounds_toArray, List.set_cons_zero, List.set_cons_succ, i64_w, i32_w]
    rfl
  refine take_ (i := 6) (N := some 13) (v := ?_) (a' := ?_) #[true, true, true, true, true, true, true, true, true, true, false, true, false, false, false, false] rfl rfl (by kernel_rfl) (fun _ _ _ h => h) (Or.inl ⟨by rfl, ?_⟩) hHeld ?_ ?_
  rotate_left
  · rintro w' ⟨s0, s1, s2, s3, s4, s5, s6⟩
    go_simp
    with_reducible rfl
  rotate_left
  · simp only [Act.put, List.setIfInBounds_toArray, List.set_cons_zero, List.set_cons_succ, i64_w, i32_w]
    rfl
  refine take_ (i := 10) (N := some 17) (v := ?_) (a' := ?_) #[true, true, true, true, true, true, true, true, true, true, true, true, false, false, false, false] rfl rfl (by kernel_rfl) (fun _ _ _ h => h) (Or.inl ⟨by rfl, ?_⟩) hHeld ?_ ?_
  rotate_left
  · rintro w' ⟨s0, s1, s2, s3, s4, s5, s6⟩
    go_simp
    with_reducible rfl
  rotate_left
  · simp only [Act.put, List.setIfInBounds_toArray, List.set_cons_zero, List.set_cons_succ, i64_w, i32_w]
    rfl
  refine pure_ (i := 12) (N := some 19) (v := ?_) (a' := ?_) #[true, true, true, true, true, true, true, true, true, true, true, true, true, false, false, false] rfl rfl (by kernel_rfl) (fun _ _ _ h => h) (Or.inl ⟨by rfl, ?_⟩) ?_ ?_
  rotate_left
  · intro w'
    go_simp
    with_reducible rfl
  rotate_left
  · simp only [Act.put, List.setIfInBounds_toArray, List.set_cons_zero, List.set_cons_succ, i64_w, i32_w]
    rfl
  refine take_ (i := 13) (N := some 20) (v := ?_) (a' := ?_) #[true, true, true, true, true, true, true, true, true, true, true, true, true, true, false, false] rfl rfl (by kernel_rfl) (fun _ _ _ h => h) (Or.inl ⟨by rfl, ?_⟩) hHeld ?_ ?_
  rotate_left
  · rintro w' ⟨s0, s1, s2, s3, s4, s5, s6⟩
    go_simp
    with_reducible rfl
  rotate_left
  · simp only [Act.put, List.setIfInBounds_toArray, List.set_cons_zero, List.set_cons_succ, i64_w, i32_w]
    rfl
  refine one_ (i := 14) (N := some 21) #[true, true, true, true, true, true, true, true, true, true, true, true, true, true, true, false] rfl rfl (by kernel_rfl) (by decide) (fun K hK => ?_)
  refine goes_ Try.func12 (by kernel_rfl) rfl #[.agg #[.int .i64 x0, .int .i64 x1, .int .i64 x2], .agg #[.int .i64 y0, .int .i64 y1, .int .i64 y2]] (by rfl) rfl rfl (by first | rfl | (simp only [List.map_toArray, List.map_cons, List.map_nil]; rfl)) ?_
  with_reducible refine (less_ x0 x1 x2 y0 y1 y2 _).mono ?_
  rintro e wv ⟨rfl, hb⟩
  rw [HR.out]
  replace HH := Aside0.mk (HH.out.step hb)
  replace HB := Aside0.mk (below_step HB.out hb)
  clear hb
  refine ⟨_, rfl, ?_⟩
  refine hK.out _ _ ⟨HH.out.cell, (at3 HH.out HX.out).1, (at3 HH.out HX.out).2.1, (at3 HH.out HX.out).2.2, (at3 HH.out HY.out).1, (at3 HH.out HY.out).2.1, (at3 HH.out HY.out).2.2⟩ (fun hHeld => ?_)
  clear hK K
  refine norm_ (a' := ?_) ?_ ?_
  rotate_left
  · show Act.put _ (some 21) _ = _
    simp only [Act.put, List.setIfInBounds_toArray, List.set_cons_zero, List.set_cons_succ, i64_w, i32_w]
    rfl
  refine pure_ (i := 15) (N := some 6) (v := ?_) (a' := ?_) #[true, true, true, true, true, true, true, true, true, true, true, true, true, true, true, true] rfl rfl (by kernel_rfl) (fun _ _ _ h => h) (Or.inl ⟨by rfl, ?_⟩) ?_ ?_
  rotate_left
  · intro w'
    go_simp
    with_reducible rfl
  rotate_left
  · simp only [Act.put, List.setIfInBounds_toArray, List.set_cons_zero, List.set_cons_succ, i64_w, i32_w]
    rfl
  refine done_ (by kernel_rfl) ?_
  (try go_wp2)
  first | go_ret | go_ret2
  exact ⟨rfl, HB.out⟩
end Go.Proofs.Ytojaflnejkbjnaa.Hp2
