/- A heap's rows written in place; row.Swap. -/
import Derived.Test.YtojaflnejkbjnaaHp2
import Derived.Deep.MidRow
namespace Go.Proofs.Ytojaflnejkbjnaa.Hp3
open Go.RowKit Go.Proofs.YtojaflnejkbjnaaW.PrintWords Go.Proofs.YtojaflnejkbjnaaW.PrintLast Go.Proofs.YtojaflnejkbjnaaW.PrintMore Go.Proofs.Ytojaflnejkbjnaa.Hp1 Go.Proofs.Ytojaflnejkbjnaa.Hp2
attribute [local go_sem] max2_int min2_int max_two min_two max_three min_three max_four min_four
set_option linter.unusedVariables false
set_option linter.unusedSimpArgs false
/-- What a heap's step keeps: all but the heap's cell and its row. -/
structure HK (w w' : World) (b : Nat) (v : Value) : Prop where
  os : w'.os = w.os
  tape : w'.tape = w.tape
  output : w'.output = w.output
  size : w.heap.size ≤ w'.heap.size
  block : ∀ i, i < w.heap.size → i ≠ b → some i ≠ v.ownBlock → w'.heap[i]? = w.heap[i]?
theorem HK.refl (w : World) (b : Nat) (v : Value) : HK w w b v := ⟨rfl, rfl, rfl, Nat.le_refl _, fun _ _ _ _ => rfl⟩
theorem HK.of_below {w w' : World} (h : Below w.heap.size w w') (b : Nat) (v : Value) : HK w w' b v := ⟨h.os, h.tape, h.output, h.size, fun i hi _ _ => h.block i hi⟩
theorem HK.of_grown {w w' : World} {v : Value} (h : w.grownBy w' v.ownBlock) (b : Nat) : HK w w' b v := ⟨h.os, h.tape, h.output, h.size, fun i hi _ hr => h.block i hi hr⟩
def At (w : World) (v v' : Value) : Prop := v'.ownBlock = v.ownBlock ∨ ∃ k, v'.ownBlock = some k ∧ w.heap.size ≤ k
theorem At.refl (w : World) (v : Value) : At w v v := .inl rfl
theorem HK.trans {w w1 w2 : World} {b : Nat} {v v1 : Value} (h : HK w w1 b v) (h2 : HK w1 w2 b v1) (ha : At w v v1) : HK w w2 b v :=
  ⟨h2.os.trans h.os, h2.tape.trans h.tape, h2.output.trans h.output, Nat.le_trans h.size h2.size, fun i hi hb hn => (h2.block i (Nat.lt_of_lt_of_le hi h.size) hb (by
    rcases ha with e | ⟨k, e, hk⟩
    · rw [e]; exact hn
    · rw [e]; intro e2; injection e2 with e2; omega)).trans (h.block i hi hb hn)⟩
theorem At.trans {w w1 : World} {b : Nat} {v v1 v2 : Value} (h : HK w w1 b v) (ha : At w v v1) (ha2 : At w1 v1 v2) : At w v v2 := by
  rcases ha2 with e | ⟨k, e, hk⟩
  · rcases ha with e2 | ⟨k, e2, hk⟩
    · exact .inl (e.trans e2)
    · exact .inr ⟨k, e.trans e2, hk⟩
  · exact .inr ⟨k, e, Nat.le_trans h.size hk⟩
/-- A heap's step: what it has behind it. -/
def Goes (w w' : World) (base b : Nat) (v : Value) (ys : List It) : Prop := ∃ v', IsH w' base b v' ys ∧ HK w w' b v ∧ At w v v'
theorem Goes.trans {w w1 w2 : World} {base b : Nat} {v v1 : Value} {ys : List It} (h : HK w w1 b v) (ha : At w v v1) (h2 : Goes w1 w2 base b v1 ys) : Goes w w2 base b v ys := by
  obtain ⟨v2, h3, h4, h5⟩ := h2
  exact ⟨v2, h3, h.trans h4 ha, At.trans h ha h5⟩
theorem Goes.below {w w1 w2 : World} {base b : Nat} {v : Value} {ys : List It} (h : Below w.heap.size w w1) (h2 : Goes w1 w2 base b v ys) : Goes w w2 base b v ys := Goes.trans (HK.of_below h b v) (At.refl _ _) h2
theorem Goes.then_below {w w1 w2 : World} {base b : Nat} {v : Value} {ys : List It} (h : Goes w w1 base b v ys) (h2 : Below w1.heap.size w1 w2) : Goes w w2 base b v ys := by
  obtain ⟨v1, h3, h4, h5⟩ := h
  exact ⟨v1, h3.step h2, h4.trans (HK.of_below h2 b v1) h5, h5⟩
theorem IsH.own {w : World} {base b : Nat} {v : Value} {xs : List It} (h : IsH w base b v xs) : v.ownBlock ≠ some b := fun e => Kd.R_ne h.2.2 h.2.1 (by decide) e.symm
theorem Goes.base {B : Nat} {w0 w w' : World} {b : Nat} {v : Value} {xs ys : List It} (hB : Below B w0 w) (h : IsH w B b v xs) (g : Goes w w' B b v ys) (hs : B ≤ w0.heap.size) : Below B w0 w' := by
  obtain ⟨v', h1, h2, h3⟩ := g
  refine ⟨h2.os.trans hB.os, h2.tape.trans hB.tape, h2.output.trans hB.output, Nat.le_trans hB.size h2.size, fun i hi => (h2.block i ?_ ?_ ?_).trans (hB.block i hi)⟩
  · exact Nat.lt_of_lt_of_le hi (Nat.le_trans hs hB.size)
  · have := h.1; omega
  · intro e
    have := Kd.R_base h.2.2 i e.symm
    omega
theorem kdi_M {w w1 : World} {base base1 : Nat} {ok ok1 : Nat → Prop} {x : It} {cs : List Value} (h : kdi.M w base ok x cs) : kdi.M w1 base1 ok1 x cs := by
  obtain ⟨_, _, rfl, rfl, ⟨_, _, rfl, rfl, rfl⟩⟩ := h
  exact ⟨_, _, rfl, rfl, ⟨_, _, rfl, rfl, rfl⟩⟩
abbrev i3 (x : It) : List Value := [.int .i64 x.1, .int .i64 x.2.1, .int .i64 x.2.2]
theorem kdi_mk (w : World) (base : Nat) (ok : Nat → Prop) (x : It) : kdi.M w base ok x (i3 x) := ⟨[.int .i64 x.1], [.int .i64 x.2.1, .int .i64 x.2.2], rfl, rfl, ⟨[.int .i64 x.2.1], [.int .i64 x.2.2], rfl, rfl, rfl⟩⟩
/-- One item of a row is written anew. -/
theorem put3 {w : World} {base g c : Nat} {ok : Nat → Prop} {xs : List It} (h : Kd.R kdi 33 w base ok (.slice (some ⟨g, 0, none⟩) xs.length c) xs) (i : Nat) (hi : i < xs.length) (x : It) :
    Kd.R kdi 33 (w.setCells g (i * 3) (i3 x)) base ok (.slice (some ⟨g, 0, none⟩) (xs.set i x).length c) (xs.set i x) ∧ w.grownBy (w.setCells g (i * 3) (i3 x)) (some g) ∧ w.there g (i * 3) 3 := by
  obtain ⟨h1, inner, ⟨h2, h3⟩, h4⟩ := h
  rcases h3 with ⟨e, _⟩ | ⟨g', cap, cur, e, hg, hh, hn, hm, hs, ht⟩
  · cases e
  cases e
  have hfit : i * 3 + 3 ≤ cur.size := by
    rw [hs]
    show i * 3 + 3 ≤ _ * 3
    omega
  obtain ⟨cur', e1, e2, e3⟩ := setCells_row (i3 x) (i * 3) w cur hh hfit
  obtain ⟨s1, s2, s3, s4⟩ := setCells_same g (i3 x) (i * 3) w
  rw [List.length_set]
  refine ⟨⟨h1, inner.take (i * 3) ++ i3 x ++ inner.drop (i * 3 + 3), ⟨?_, .inr ⟨g, c, cur', by rw [List.length_set], hg, e1, by rw [List.length_set]; exact hn, hm, by rw [e2, hs], ?_⟩⟩, ?_⟩, ⟨s1, s2, s3, by rw [s4]; exact Nat.le_refl _, fun k _ hk => setCells_far (i3 x) _ k (fun he => hk (by rw [he]))⟩, fun j hj => ⟨?_, blk_frozen hh _⟩⟩
  · rw [List.length_set]
    simp only [List.length_append, List.length_take, List.length_drop, List.length_cons, List.length_nil]
    have hb : inner.length = xs.length * 3 := h2
    show _ = xs.length * 3
    omega
  · rw [e3, ← ht]
    have hcl : cur.toList.length = cur.size := Array.length_toList
    have hle : i * 3 + 3 ≤ xs.length * 3 := by omega
    apply List.ext_getElem?
    intro q
    have hd3 : kdi.sz = 3 := rfl
    simp only [hd3, List.getElem?_take, List.getElem?_append, List.getElem?_drop, List.length_append, List.length_take, List.length_cons, List.length_nil, List.length_set]
    by_cases q1 : q < i * 3
    · simp only [show q < min (i * 3) cur.toList.length + (0 + 1 + 1 + 1) by omega, show q < min (i * 3) cur.toList.length by omega, show q < min (i * 3) (min (xs.length * 3) cur.toList.length) + (0 + 1 + 1 + 1) by omega, show q < min (i * 3) (min (xs.length * 3) cur.toList.length) by omega, show q < xs.length * 3 by omega, q1, if_true]
    · by_cases q2 : q < i * 3 + 3
      · simp only [show q < min (i * 3) cur.toList.length + (0 + 1 + 1 + 1) by omega, show ¬ q < min (i * 3) cur.toList.length by omega, show q < min (i * 3) (min (xs.length * 3) cur.toList.length) + (0 + 1 + 1 + 1) by omega, show ¬ q < min (i * 3) (min (xs.length * 3) cur.toList.length) by omega, show q < xs.length * 3 by omega, if_true, if_false]
        rw [show min (i * 3) cur.toList.length = min (i * 3) (min (xs.length * 3) cur.toList.length) by omega]
      · simp only [show ¬ q < min (i * 3) cur.toList.length + (0 + 1 + 1 + 1) by omega, show ¬ q < min (i * 3) (min (xs.length * 3) cur.toList.length) + (0 + 1 + 1 + 1) by omega, if_false]
        by_cases q3 : q < xs.length * 3
        · rw [if_pos q3, if_pos (by omega)]
          congr 1
          omega
        · rw [if_neg q3, if_neg (by omega)]
  · have h5 : Reps (kdi.M (w.setCells g (i * 3) (i3 x)) base fun k => ok k ∧ some k ≠ (Value.slice (some ⟨g, 0, none⟩) xs.length c).ownBlock) 3 xs inner := ⟨h4.1, fun m p hm => kdi_M (h4.2 m p hm)⟩
    exact Kd.reps_set h5 hi (kdi_mk _ _ _ x) rfl
  · rw [cell_of_row w g _ cur 33 (0, 0) hh]
    simp
    omega
theorem st3 {oi : Oper} {x y : Operand} (ho : oi.op = .store 33 x y) {a : Act} {w : World} {p : Addr} {g o : Nat} {z : It} (hx : a.eval x = .pointer (some p)) (hp : p = ⟨g, o, none⟩) (hy : a.eval y = .agg #[.int .i64 z.1, .int .i64 z.2.1, .int .i64 z.2.2]) (ht : w.there g o 3) :
    (execOp a.eval oi).run Try.prog w = .ok .skip (w.setCells g o (i3 z)) := by
  subst hp
  have := run_storeAt_mid (P := Try.prog) w g o 33 #[.int .i64 z.1, .int .i64 z.2.1, .int .i64 z.2.2] ht (by kernel_rfl) (by simp [Value.oneCell'])
  unfold execOp
  simp only [ho, hx, hy, Sem.run_bind, Sem.run_pure, this, Result.andThen_ok]
def swp (xs : List It) (i k : Nat) : List It := (xs.set i (ri xs k)).set k (ri xs i)
theorem swp_len (xs : List It) (i k : Nat) : (swp xs i k).length = xs.length := by unfold swp; simp
theorem gtr {w w1 w2 : World} {g : Nat} (h : w.grownBy w1 (some g)) (h2 : w1.grownBy w2 (some g)) : w.grownBy w2 (some g) :=
  ⟨h2.os.trans h.os, h2.tape.trans h.tape, h2.output.trans h.output, Nat.le_trans h.size h2.size, fun i hi hr => (h2.block i (Nat.lt_of_lt_of_le hi h.size) hr).trans (h.block i hi hr)⟩
set_option maxHeartbeats 8000000 in
set_option maxRecDepth 100000 in
theorem swap_ (base b : Nat) (A : Option Addr) (c n : Nat) (xs : List It) (i k : Nat) (hi : i < xs.length) (hk : k < xs.length) (w : World) (h : IsH w base b (.slice A n c) xs) : Calls Try.prog 48 #[.pointer (some ⟨b, 0, none⟩), .int .i64 (i : Int), .int .i64 (k : Int)] w fun e w' => e = .returned (.tuple #[]) ∧ IsH w' base b (.slice A n c) (swp xs i k) ∧ HK w w' b (.slice A n c) := by
  obtain rfl : n = xs.length := (Kd.R_reads' h.2.2).1
  obtain ⟨ad, rfl, _⟩ := at_H (Kd.R_reads' h.2.2).2.2 i hi
  obtain ⟨g, c', e, hbg, hgl, _⟩ := Kd.R_form h.2.2 (by omega)
  have had : ad = ⟨g, 0, none⟩ := by injection e with e _ _; injection e
  obtain ⟨⟨x0, x1, x2⟩, hx⟩ : ∃ x, ri xs i = x := ⟨_, rfl⟩
  obtain ⟨⟨y0, y1, y2⟩, hy⟩ : ∃ y, ri xs k = y := ⟨_, rfl⟩
  unfold swp
  rw [hx, hy]
  have HAE := Aside0.mk had
  have HAD := Aside0.mk (show ∀ j, ad.add (j * 3) = ⟨g, j * 3, none⟩ by intro j; rw [had]; unfold Addr.add; split <;> simp_all)
  have HNB := Aside0.mk (show b ≠ g by intro e2; have := IsH.own h; rw [had, e2] at this; exact this rfl)
  have HX := Aside0.mk (show i < xs.length ∧ ri xs i = (x0, x1, x2) from ⟨hi, hx⟩)
  have HY := Aside0.mk (show k < xs.length ∧ ri xs k = (y0, y1, y2) from ⟨hk, hy⟩)
  have HI := Aside0.mk hi
  have HK_ := Aside0.mk hk
  have HH := Aside0.mk h
  have H0 := Aside0.mk h
  have p1 : ((i : Int) < (xs.length : Int)) = True := eq_true (by omega)
  have p2 : ((k : Int) < (xs.length : Int)) = True := eq_true (by omega)
  have p3 : (0 ≤ (i : Int)) = True := eq_true (by omega)
  have p4 : (0 ≤ (k : Int)) = True := eq_true (by omega)
  clear hx hy hi hk h e had hbg hgl
  go_enter Try.func48, Try.ntmps48
  (try go_wp2)
  obtain ⟨wv, hwv⟩ : ∃ wv, wv = w := ⟨_, rfl⟩
  rw [← hwv] at HH ⊢
  have HB := Aside0.mk (show w.grownBy wv (some g) by rw [hwv]; exact ⟨rfl, rfl, rfl, Nat.le_refl _, fun _ _ _ => rfl⟩)
  clear hwv
  refine start_ (n := 28) (S := fun w' => w'.cell? ⟨b, 0, none⟩ = some (.slice (some ad) xs.length c) ∧ w'.cell? (ad.add (i * 3)) = some (.int .i64 x0) ∧ w'.cell? ⟨(ad.add (i * 3)).block, (ad.add (i * 3)).off + 1, none⟩ = some (.int .i64 x1) ∧ w'.cell? ⟨(ad.add (i * 3)).block, (ad.add (i * 3)).off + 2, none⟩ = some (.int .i64 x2) ∧ w'.cell? (ad.add (k * 3)) = some (.int .i64 y0) ∧ w'.cell? ⟨(ad.add (k * 3)).block, (ad.add (k * 3)).off + 1, none⟩ = some (.int .i64 y1) ∧ w'.cell? ⟨(ad.add (k * 3)).block, (ad.add (k * 3)).off + 2, none⟩ = some (.int .i64 y2)) (ds := [25, 27]) #[false, false, false, false, false, false, false, false, false, false, false, false, false, false, false, false, false, false, false, false, false, false, false, false, false, false, false, false] (by kernel_rfl) rfl rfl ⟨HH.out.cell, (at3 HH.out HX.out).1, (at3 HH.out HX.out).2.1, (at3 HH.out HX.out).2.2, (at3 HH.out HY.out).1, (at3 HH.out HY.out).2.1, (at3 HH.out HY.out).2.2⟩ (fun hHeld => ?_)
  replace HH := Aside0.mk (show IsH wv.drew base b _ xs from HH.out)
  replace HB := Aside0.mk (show w.grownBy wv.drew (some g) from ⟨HB.out.os, HB.out.tape, HB.out.output, HB.out.size, HB.out.block⟩)
  have HR := Aside0.mk (show Kd.R kdi 33 wv.drew base (fun k => some k = (Value.slice (some ad) xs.length c).ownBlock) (.slice (some ⟨g, 0, none⟩) xs.length c) xs by have := HH.out.2.2; rw [HAE.out] at this ⊢; exact this)
  generalize wv.drew = wv at HH HB HR hHeld ⊢
  refine pure_ (i := 0) (N := some 6) (v := ?_) (a' := ?_) #[true, false, false, false, false, false, false, false, false, false, false, false, false, false, false, false, false, false, false, false, false, false, false, false, false, false, false, false] rfl rfl (by kernel_rfl) (fun _ _ _ h => h) (Or.inl ⟨by rfl, ?_⟩) ?_ ?_
  rotate_left
  · intro w'
    go_simp
    with_reducible rfl
  rotate_left
  · simp only [Act.put, List.setIfInBounds_toArray, List.set_cons_zero, List.set_cons_succ, i64_w, i32_w]
    rfl
  refine pure_ (i := 1) (N := some 7) (v := ?_) (a' := ?_) #[true, true, false, false, false, false, false, false, false, false, false, false, false, false, false, false, false, false, false, false, false, false, false, false, false, false, false, false] rfl rfl (by kernel_rfl) (fun _ _ _ h => h) (Or.inl ⟨by rfl, ?_⟩) ?_ ?_
  rotate_left
  · intro w'
    go_simp
    with_reducible rfl
  rotate_left
  · simp only [Act.put, List.setIfInBounds_toArray, List.set_cons_zero, List.set_cons_succ, i64_w, i32_w]
    rfl
  refine pure_ (i := 2) (N := some 8) (v := ?_) (a' := ?_) #[true, true, true, false, false, false, false, false, false, false, false, false, false, false, false, false, false, false, false, false, false, false, false, false, false, false, false, false] rfl rfl (by kernel_rfl) (fun _ _ _ h => h) (Or.inl ⟨by rfl, ?_⟩) ?_ ?_
  rotate_left
  · intro w'
    go_simp
    with_reducible rfl
  rotate_left
  · simp only [Act.put, List.setIfInBounds_toArray, List.set_cons_zero, List.set_cons_succ, i64_w, i32_w]
    rfl
  refine pure_ (i := 4) (N := some 10) (v := ?_) (a' := ?_) #[true, true, true, false, true, false, false, false, false, false, false, false, false, false, false, false, false, false, false, false, false, false, false, false, false, false, false, false] rfl rfl (by kernel_rfl) (fun _ _ _ h => h) (Or.inl ⟨by rfl, ?_⟩) ?_ ?_
  rotate_left
  · intro w'
    go_simp
    with_reducible rfl
  rotate_left
  · simp only [Act.put, List.setIfInBounds_toArray, List.set_cons_zero, List.set_cons_succ, i64_w, i32_w]
    rfl
  refine pure_ (i := 5) (N := some 11) (v := ?_) (a' := ?_) #[true, true, true, false, true, true, false, false, false, false, false, false, false, false, false, false, false, false, false, false, false, false, false, false, false, false, false, false] rfl rfl (by kernel_rfl) (fun _ _ _ h => h) (Or.inl ⟨by rfl, ?_⟩) ?_ ?_
  rotate_left
  · intro w'
    go_simp
    with_reducible rfl
  rotate_left
  · simp only [Act.put, List.setIfInBounds_toArray, List.set_cons_zero, List.set_cons_succ, i64_w, i32_w]
    rfl
  refine pure_ (i := 6) (N := some 12) (v := ?_) (a' := ?_) #[true, true, true, false, true, true, true, false, false, false, false, false, false, false, false, false, false, false, false, false, false, false, false, false, false, false, false, false] rfl rfl (by kernel_rfl) (fun _ _ _ h => h) (Or.inl ⟨by rfl, ?_⟩) ?_ ?_
  rotate_left
  · intro w'
    go_simp
    with_reducible rfl
  rotate_left
  · simp only [Act.put, List.setIfInBounds_toArray, List.set_cons_zero, List.set_cons_succ, i64_w, i32_w]
    rfl
  refine pure_ (i := 7) (N := some 13) (v := ?_) (a' := ?_) #[true, true, true, false, true, true, true, true, false, false, false, false, false, false, false, false, false, false, false, false, false, false, false, false, false, false, false, false] rfl rfl (by kernel_rfl) (fun _ _ _ h => h) (Or.inl ⟨by rfl, ?_⟩) ?_ ?_
  rotate_left
  · intro w'
    go_simp
    with_reducible rfl
  rotate_left
  · simp only [Act.put, List.setIfInBounds_toArray, List.set_cons_zero, List.set_cons_succ, i64_w, i32_w]
    rfl
  refine pure_ (i := 9) (N := some 15) (v := ?_) (a' := ?_) #[true, true, true, false, true, true, true, true, false, true, false, false, false, false, false, false, false, false, false, false, false, false, false, false, false, false, false, false] rfl rfl (by kernel_rfl) (fun _ _ _ h => h) (Or.inl ⟨by rfl, ?_⟩) ?_ ?_
  rotate_left
  · intro w'
    go_simp
    with_reducible rfl
  rotate_left
  · simp only [Act.put, List.setIfInBounds_toArray, List.set_cons_zero, List.set_cons_succ, i64_w, i32_w]
    rfl
  refine pure_ (i := 10) (N := some 16) (v := ?_) (a' := ?_) #[true, true, true, false, true, true, true, true, false, true, true, false, false, false, false, false, false, false, false, false, false, false, false, false, false, false, false, false] rfl rfl (by kernel_rfl) (fun _ _ _ h => h) (Or.inl ⟨by rfl, ?_⟩) ?_ ?_
  rotate_left
  · intro w'
    go_simp
    with_reducible rfl
  rotate_left
  · simp only [Act.put, List.setIfInBounds_toArray, List.set_cons_zero, List.set_cons_succ, i64_w, i32_w]
    rfl
  refine pure_ (i := 11) (N := some 17) (v := ?_) (a' := ?_) #[true, true, true, false, true, true, true, true, false, true, true, true, false, false, false, false, false, false, false, false, false, false, false, false, false, false, false, false] rfl rfl (by kernel_rfl) (fun _ _ _ h => h) (Or.inl ⟨by rfl, ?_⟩) ?_ ?_
  rotate_left
  · intro w'
    go_simp
    with_reducible rfl
  rotate_left
  · simp only [Act.put, List.setIfInBounds_toArray, List.set_cons_zero, List.set_cons_succ, i64_w, i32_w]
    rfl
  refine pure_ (i := 12) (N := some 18) (v := ?_) (a' := ?_) #[true, true, true, false, true, true, true, true, false, true, true, true, true, false, false, false, false, false, false, false, false, false, false, false, false, false, false, false] rfl rfl (by kernel_rfl) (fun _ _ _ h => h) (Or.inl ⟨by rfl, ?_⟩) ?_ ?_
  rotate_left
  · intro w'
    go_simp
    with_reducible rfl
  rotate_left
  · simp only [Act.put, List.setIfInBounds_toArray, List.set_cons_zero, List.set_cons_succ, i64_w, i32_w]
    rfl
  refine pure_ (i := 14) (N := some 20) (v := ?_) (a' := ?_) #[true, true, true, false, true, true, true, true, false, true, true, true, true, false, true, false, false, false, false, false, false, false, false, false, false, false, false, false] rfl rfl (by kernel_rfl) (fun _ _ _ h => h) (Or.inl ⟨by rfl, ?_⟩) ?_ ?_
  rotate_left
  · intro w'
    go_simp
    with_reducible rfl
  rotate_left
  · simp only [Act.put, List.setIfInBounds_toArray, List.set_cons_zero, List.set_cons_succ, i64_w, i32_w]
    rfl
  refine pure_ (i := 17) (N := some 23) (v := ?_) (a' := ?_) #[true, true, true, false, true, true, true, true, false, true, true, true, true, false, true, false, false, true, false, false, false, false, false, false, false, false, false, false] rfl rfl (by kernel_rfl) (fun _ _ _ h => h) (Or.inl ⟨by rfl, ?_⟩) ?_ ?_
  rotate_left
  · intro w'
    go_simp
    with_reducible rfl
  rotate_left
  · simp only [Act.put, List.setIfInBounds_toArray, List.set_cons_zero, List.set_cons_succ, i64_w, i32_w]
    rfl
  refine pure_ (i := 18) (N := some 24) (v := ?_) (a' := ?_) #[true, true, true, false, true, true, true, true, false, true, true, true, true, false, true, false, false, true, true, false, false, false, false, false, false, false, false, false] rfl rfl (by kernel_rfl) (fun _ _ _ h => h) (Or.inl ⟨by rfl, ?_⟩) ?_ ?_
  rotate_left
  · intro w'
    go_simp
    with_reducible rfl
  rotate_left
  · simp only [Act.put, List.setIfInBounds_toArray, List.set_cons_zero, List.set_cons_succ, i64_w, i32_w]
    rfl
  refine pure_ (i := 19) (N := some 25) (v := ?_) (a' := ?_) #[true, true, true, false, true, true, true, true, false, true, true, true, true, false, true, false, false, true, true, true, false, false, false, false, false, false, false, false] rfl rfl (by kernel_rfl) (fun _ _ _ h => h) (Or.inl ⟨by rfl, ?_⟩) ?_ ?_
  rotate_left
  · intro w'
    go_simp
    with_reducible rfl
  rotate_left
  · simp only [Act.put, List.setIfInBounds_toArray, List.set_cons_zero, List.set_cons_succ, i64_w, i32_w]
    rfl
  refine pure_ (i := 21) (N := some 27) (v := ?_) (a' := ?_) #[true, true, true, false, true, true, true, true, false, true, true, true, true, false, true, false, false, true, true, true, false, true, false, false, false, false, false, false] rfl rfl (by kernel_rfl) (fun _ _ _ h => h) (Or.inl ⟨by rfl, ?_⟩) ?_ ?_
  rotate_left
  · intro w'
    go_simp
    with_reducible rfl
  rotate_left
  · simp only [Act.put, List.setIfInBounds_toArray, List.set_cons_zero, List.set_cons_succ, i64_w, i32_w]
    rfl
  refine take_ (i := 3) (N := some 9) (v := ?_) (a' := ?_) #[true, true, true, true, true, true, true, true, false, true, true, true, true, false, true, false, false, true, true, true, false, true, false, false, false, false, false, false] rfl rfl (by kernel_rfl) (fun _ _ _ h => h) (Or.inl ⟨by rfl, ?_⟩) hHeld ?_ ?_
  rotate_left
  · rintro w' ⟨s0, s1, s2, s3, s4, s5, s6⟩
    go_simp
    with_reducible rfl
  rotate_left
  · simp only [Act.put, List.setIfInBounds_toArray, List.set_cons_zero, List.set_cons_succ, i64_w, i32_w]
    rfl
  refine take_ (i := 8) (N := some 14) (v := ?_) (a' := ?_) #[true, true, true, true, true, true, true, true, true, true, true, true, true, false, true, false, false, true, true, true, false, true, false, false, false, false, false, false] rfl rfl (by kernel_rfl) (fun _ _ _ h => h) (Or.inl ⟨by rfl, ?_⟩) hHeld ?_ ?_
  rotate_left
  · rintro w' ⟨s0, s1, s2, s3, s4, s5, s6⟩
    go_simp
    with_reducible rfl
  rotate_left
  · simp only [Act.put, List.setIfInBounds_toArray, List.set_cons_zero, List.set_cons_succ, i64_w, i32_w]
    rfl
  refine take_ (i := 13) (N := some 19) (v := ?_) (a' := ?_) #[true, true, true, true, true, true, true, true, true, true, true, true, true, true, true, false, false, true, true, true, false, true, false, false, false, false, false, false] rfl rfl (by kernel_rfl) (fun _ _ _ h => h) (Or.inl ⟨by rfl, ?_⟩) hHeld ?_ ?_
  rotate_left
  · rintro w' ⟨s0, s1, s2, s3, s4, s5, s6⟩
    go_simp
    with_reducible rfl
  rotate_left
  · simp only [Act.put, List.setIfInBounds_toArray, List.set_cons_zero, List.set_cons_succ, i64_w, i32_w]
    rfl
  refine pure_ (i := 15) (N := some 21) (v := ?_) (a' := ?_) #[true, true, true, true, true, true, true, true, true, true, true, true, true, true, true, true, false, true, true, true, false, true, false, false, false, false, false, false] rfl rfl (by kernel_rfl) (fun _ _ _ h => h) (Or.inl ⟨by rfl, ?_⟩) ?_ ?_
  rotate_left
  · intro w'
    go_simp
    with_reducible rfl
  rotate_left
  · simp only [Act.put, List.setIfInBounds_toArray, List.set_cons_zero, List.set_cons_succ, i64_w, i32_w]
    rfl
  refine take_ (i := 16) (N := some 22) (v := ?_) (a' := ?_) #[true, true, true, true, true, true, true, true, true, true, true, true, true, true, true, true, true, true, true, true, false, true, false, false, false, false, false, false] rfl rfl (by kernel_rfl) (fun _ _ _ h => h) (Or.inl ⟨by rfl, ?_⟩) hHeld ?_ ?_
  rotate_left
  · rintro w' ⟨s0, s1, s2, s3, s4, s5, s6⟩
    go_simp
    with_reducible rfl
  rotate_left
  · simp only [Act.put, List.setIfInBounds_toArray, List.set_cons_zero, List.set_cons_succ, i64_w, i32_w]
    rfl
  refine take_ (i := 20) (N := some 26) (v := ?_) (a' := ?_) #[true, true, true, true, true, true, true, true, true, true, true, true, true, true, true, true, true, true, true, true, true, true, false, false, false, false, false, false] rfl rfl (by kernel_rfl) (fun _ _ _ h => h) (Or.inl ⟨by rfl, ?_⟩) hHeld ?_ ?_
  rotate_left
  · rintro w' ⟨s0, s1, s2, s3, s4, s5, s6⟩
    go_simp
    with_reducible rfl
  rotate_left
  · simp only [Act.put, List.setIfInBounds_toArray, List.set_cons_zero, List.set_cons_succ, i64_w, i32_w]
    rfl
  refine pure_ (i := 22) (N := some 28) (v := ?_) (a' := ?_) #[true, true, true, true, true, true, true, true, true, true, true, true, true, true, true, true, true, true, true, true, true, true, true, false, false, false, false, false] rfl rfl (by kernel_rfl) (fun _ _ _ h => h) (Or.inl ⟨by rfl, ?_⟩) ?_ ?_
  rotate_left
  · intro w'
    go_simp
    with_reducible rfl
  rotate_left
  · simp only [Act.put, List.setIfInBounds_toArray, List.set_cons_zero, List.set_cons_succ, i64_w, i32_w]
    rfl
  refine take_ (i := 23) (N := some 29) (v := ?_) (a' := ?_) #[true, true, true, true, true, true, true, true, true, true, true, true, true, true, true, true, true, true, true, true, true, true, true, true, false, false, false, false] rfl rfl (by kernel_rfl) (fun _ _ _ h => h) (Or.inl ⟨by rfl, ?_⟩) hHeld ?_ ?_
  rotate_left
  · rintro w' ⟨s0, s1, s2, s3, s4, s5, s6⟩
    go_simp
    with_reducible rfl
  rotate_left
  · simp only [Act.put, List.setIfInBounds_toArray, List.set_cons_zero, List.set_cons_succ, i64_w, i32_w]
    rfl
  refine pure_ (i := 24) (N := some 30) (v := ?_) (a' := ?_) #[true, true, true, true, true, true, true, true, true, true, true, true, true, true, true, true, true, true, true, true, true, true, true, true, true, false, false, false] rfl rfl (by kernel_rfl) (fun _ _ _ h => h) (Or.inl ⟨by rfl, ?_⟩) ?_ ?_
  rotate_left
  · intro w'
    go_simp
    with_reducible rfl
  rotate_left
  · simp only [Act.put, List.setIfInBounds_toArray, List.set_cons_zero, List.set_cons_succ, i64_w, i32_w]
    rfl
  refine last_ (i := 25) (N := none) #[true, true, true, true, true, true, true, true, true, true, true, true, true, true, true, true, true, true, true, true, true, true, true, true, true, true, false, false] rfl rfl (by kernel_rfl) (by decide) (fun K hK => ?_)
  refine skip_ (w1 := wv.setCells g (i * 3) (i3 (y0, y1, y2))) (by rfl) rfl (st3 rfl rfl (HAD.out i) rfl (put3 HR.out i HI.out (y0, y1, y2)).2.2) ?_
  obtain ⟨hR2, hG2, _⟩ := put3 HR.out i HI.out (y0, y1, y2)
  replace HR := Aside0.mk hR2
  replace HB := Aside0.mk (gtr HB.out hG2)
  clear hR2 hG2
  generalize wv.setCells g (i * 3) (i3 (y0, y1, y2)) = wv at HR HB ⊢
  refine hK.out _ _ ?_
  clear hK K
  refine pure_ (i := 26) (N := some 31) (v := ?_) (a' := ?_) #[true, true, true, true, true, true, true, true, true, true, true, true, true, true, true, true, true, true, true, true, true, true, true, true, true, true, true, false] rfl rfl (by kernel_rfl) (fun _ _ _ h => h) (Or.inl ⟨by rfl, ?_⟩) ?_ ?_
  rotate_left
  · intro w'
    go_simp
    with_reducible rfl
  rotate_left
  · simp only [Act.put, List.setIfInBounds_toArray, List.set_cons_zero, List.set_cons_succ, i64_w, i32_w]
    rfl
  refine last_ (i := 27) (N := none) #[true, true, true, true, true, true, true, true, true, true, true, true, true, true, true, true, true, true, true, true, true, true, true, true, true, true, true, true] rfl rfl (by kernel_rfl) (by decide) (fun K hK => ?_)
  refine skip_ (w1 := wv.setCells g (k * 3) (i3 (x0, x1, x2))) (by rfl) rfl (st3 rfl rfl (HAD.out k) rfl (put3 HR.out k (by rw [List.length_set]; exact HK_.out) (x0, x1, x2)).2.2) ?_
  obtain ⟨hR2, hG2, _⟩ := put3 HR.out k (by rw [List.length_set]; exact HK_.out) (x0, x1, x2)
  replace HR := Aside0.mk hR2
  replace HB := Aside0.mk (gtr HB.out hG2)
  clear hR2 hG2
  generalize wv.setCells g (k * 3) (i3 (x0, x1, x2)) = wv at HR HB ⊢
  refine hK.out _ _ ?_
  clear hK K
  refine done_ (by kernel_rfl) ?_
  (try go_wp2)
  refine bodyPost_end (results_none rfl _ _ _) rfl ?_
  have hHH := HH.out
  have h0 := H0.out
  have hHR := HR.out
  have hHB := HB.out
  have hAE := HAE.out
  have hNB := HNB.out
  clear HH HR HB HAE HNB
  subst hAE
  rw [List.length_set, List.length_set] at hHR
  exact ⟨rfl, ⟨hHH.1, (hHB.block b (blk_lt h0.2.1) (fun e => by injection e with e; exact hNB e)).trans h0.2.1, hHR⟩, HK.of_grown hHB b⟩
end Go.Proofs.Ytojaflnejkbjnaa.Hp3
