/- row.Push and row.Pop. -/
import Derived.Test.YtojaflnejkbjnaaHp3
import Derived.Laws.CopyOwn
namespace Go.Proofs.Ytojaflnejkbjnaa.Hp4
open Go.RowKit Go.Proofs.YtojaflnejkbjnaaW.PrintWords Go.Proofs.YtojaflnejkbjnaaW.PrintLast Go.Proofs.YtojaflnejkbjnaaW.PrintMore Go.Proofs.Ytojaflnejkbjnaa.Hp1 Go.Proofs.Ytojaflnejkbjnaa.Hp2 Go.Proofs.Ytojaflnejkbjnaa.Hp3
attribute [local go_sem] max2_int min2_int max_two min_two max_three min_three max_four min_four
set_option linter.unusedVariables false
set_option linter.unusedSimpArgs false
theorem inf33 : (Try.prog.info? 33).map (fun i => (i.zero, i.size, i.bytes)) = some (some (.agg #[(.int .i64 0), (.int .i64 0), (.int .i64 0)]), 3, 24) := by kernel_rfl
theorem as33 (v : Value) (w : World) : (Instr.typeAssert (.iface 33 v) 20 33 true).run Try.prog w = .ok (.tuple #[v, .bool true]) w := by kernel_rfl
theorem con33 : Try.prog.concrete 33 = true := by kernel_rfl
theorem und26 : Try.prog.underlying 26 = some (.slice 33) := Try.underlying26
section
variable {ops : Array Oper} {o : Oper} {a : Act} {Q : Exit → Act → World → Prop} {Kc : Act → World → Prop}
theorem app3 {W : World} (base : Nat) (hw : Region.wanted o (yielded ops a.tmps) = true) (s x : Operand) (ho : o.op = .call { callee := .builtin .append, args := #[s, x], argTypes := #[26, 26] }) (v : Value) (xs : List It) (p : It) (hs : a.eval s = v) (hx : a.eval x = .slice (some ⟨W.heap.size, 0, none⟩) 1 1)
    (HO : Kd.R kdi 33 W base (fun k => some k = v.ownBlock) v xs) (hbase : base ≤ W.heap.size) (hl : xs.length ≤ 1000000)
    (h : ∀ v1 w1, Kd.R kdi 33 w1 base (fun k => some k = v1.ownBlock) v1 (xs ++ [p]) → W.grownBy w1 v.ownBlock → At W v v1 → Kc (a.put o.dst v1) w1) :
    if Region.wanted o (yielded ops a.tmps) = true then Oper.wp Try.prog o a (W.alloc (.cells #[.int .i64 p.1, .int .i64 p.2.1, .int .i64 p.2.2] 33)) Kc Q else Kc (a.put o.dst undef) (W.alloc (.cells #[.int .i64 p.1, .int .i64 p.2.1, .int .i64 p.2.2] 33)) := by
  refine Kd.R_append_step kdi (w0 := W) base hw s x 26 33 (.agg #[(.int .i64 0), (.int .i64 0), (.int .i64 0)]) 24 ho und26 inf33 rfl (by decide) (by omega) v xs p (i3 p) (fun _ => True) (fun _ => False) hs hx (kdi_mk _ _ _ p) (fun _ hk => hk.elim) (fun _ _ => trivial) (Kd.R_mono HO (fun _ _ => trivial)) (Below.mk rfl rfl rfl (Nat.le_refl _) (fun _ _ => rfl)) hbase (by omega) (fun v1 w1 h1 _ h3 h4 => h v1 w1 (Kd.R_tight rfl h1) h3 h4)
end
theorem HK.setb {w w1 : World} {b : Nat} {v : Value} (h : HK w w1 b v) (u : Value) : HK w (w1.setCell ⟨b, 0, none⟩ u) b v :=
  ⟨h.os, h.tape, h.output, by simpa [World.setCell] using h.size, fun i hi hb hn => (Below.heap_setCell w1 ⟨b, 0, none⟩ u i hb).trans (h.block i hi hb hn)⟩
theorem own_typed_ {w : World} {base : Nat} {ok : Nat → Prop} {v : Value} {xs : List It} (h : Kd.R kdi 33 w base ok v xs) {k : Nat} (hk : some k = v.ownBlock) : ∃ cells, w.heap[k]? = some (.cells cells 33 (0, 0)) := by
  obtain ⟨inner, ho⟩ := Kd.R_own h
  exact own_typed ho k hk.symm
theorem IsH.setr {w : World} {base b g : Nat} {v : Value} {xs : List It} {old : Array Value} (h : IsH w base b v xs) (hn : v.ownBlock ≠ some g) (hx : w.heap[g]? = some (.cells old 33 (0, 0))) (cs : Array Value) : IsH (w.setRow g cs) base b v xs := by
  have hbg : b ≠ g := by
    intro e
    have h1 := h.2.1
    rw [e, hx] at h1
    injection h1 with h1
    injection h1 with _ h1
    exact absurd h1 (by decide)
  exact ⟨h.1, (setRow_other _ _ _ _ hbg).trans h.2.1, Kd.R_step h.2.2 (fun k hk _ => setRow_other _ _ _ _ (fun e => hn (by rw [← hk, e])))⟩
set_option maxHeartbeats 8000000 in
set_option maxRecDepth 100000 in
theorem push_ (base b : Nat) (v : Value) (xs : List It) (p0 p1 p2 : Int) (hl : xs.length ≤ 1000000) (w : World) (h : IsH w base b v xs) : Calls Try.prog 47 #[.pointer (some ⟨b, 0, none⟩), .iface 33 (.agg #[.int .i64 p0, .int .i64 p1, .int .i64 p2])] w fun e w' => e = .returned (.tuple #[]) ∧ Goes w w' base b v (xs ++ [(p0, p1, p2)]) := by
  obtain ⟨A, c, rfl⟩ := Kd.R_slice h.2.2
  have has := as33 (.agg #[.int .i64 p0, .int .i64 p1, .int .i64 p2])
  have HH := Aside0.mk h
  have H0 := Aside0.mk h
  have HL := Aside0.mk hl
  clear h hl
  go_enter Try.func47, Try.ntmps47
  go_wp2_with (first | ((with_reducible refine gate_dst (N := 4) rfl ?_); refine box_event ?hg (N := 4) ?hd (cs := #[.int .i64 0, .int .i64 0, .int .i64 0]) (t := 33) ?hr ?_; (case hd => rfl); (case hg => rfl); (case hr => first | (go_simp; done) | (go_simp; rfl)); intro gx hg_ wv hbox hb; have HB := Aside0.mk hb; have NX := Aside0.mk (show (Value.slice A xs.length c).ownBlock ≠ some gx from fun e => by have := Kd.R_lt HH.out.2.2 _ e; omega); have SX := Aside0.mk (Nat.le_of_eq hg_.symm); replace HH := Aside0.mk (HH.out.step hb); have BX := Aside0.mk hbox; clear hbox hg_ hb) | ((with_reducible refine gate_store (t := 33) (p := 4) rfl ?_); refine wpList_store_row rfl 33 _ _ rfl gx #[.int .i64 p0, .int .i64 p1, .int .i64 p2] rfl rfl 33 #[.int .i64 0, .int .i64 0, .int .i64 0] BX.out (by kernel_rfl) rfl (by simp [Value.oneCell']) ?_; replace HH := Aside0.mk (IsH.setr HH.out NX.out BX.out #[.int .i64 p0, .int .i64 p1, .int .i64 p2]); replace HB := Aside0.mk (below_setRow HB.out SX.out #[.int .i64 p0, .int .i64 p1, .int .i64 p2]); replace BX := Aside0.mk (setRow_heap _ _ _ #[.int .i64 p0, .int .i64 p1, .int .i64 p2] _ _ BX.out); generalize wv.setRow gx #[.int .i64 p0, .int .i64 p1, .int .i64 p2] = wv at HB HH BX ⊢))
  refine start_ (n := 11) (S := fun w' => w'.cell? ⟨b, 0, none⟩ = some (.slice A xs.length c) ∧ w'.cell? ⟨gx, 0, none⟩ = some (.int .i64 p0) ∧ w'.cell? ⟨gx, 1, none⟩ = some (.int .i64 p1) ∧ w'.cell? ⟨gx, 2, none⟩ = some (.int .i64 p2)) (ds := [10]) #[false, false, false, false, false, false, false, false, false, false, false] (by kernel_rfl) rfl rfl ⟨HH.out.cell, (blk_cell BX.out 0).trans rfl, (blk_cell BX.out 1).trans rfl, (blk_cell BX.out 2).trans rfl⟩ (fun hHeld => ?_)
  replace HH := Aside0.mk (show IsH wv.drew base b _ xs from HH.out)
  replace BX := Aside0.mk (show wv.drew.heap[gx]? = _ from BX.out)
  replace HB := Aside0.mk (HB.out.drew)
  generalize wv.drew = wv at HH HB BX hHeld ⊢
  refine pure_ (i := 0) (N := some 12) (v := ?_) (a' := ?_) #[true, false, false, false, false, false, false, false, false, false, false] rfl rfl (by kernel_rfl) (fun _ _ _ h => h) (Or.inl ⟨by rfl, ?_⟩) ?_ ?_
  rotate_left
  · intro w'
    go_simp
    with_reducible rfl
  rotate_left
  · simp only [Act.put, List.setIfInBounds_toArray, List.set_cons_zero, List.set_cons_succ, i64_w, i32_w]
    rfl
  refine pure_ (i := 1) (N := some 13) (v := ?_) (a' := ?_) #[true, true, false, false, false, false, false, false, false, false, false] rfl rfl (by kernel_rfl) (fun _ _ _ h => h) (Or.inl ⟨by rfl, ?_⟩) ?_ ?_
  rotate_left
  · intro w'
    go_simp
    with_reducible rfl
  rotate_left
  · simp only [Act.put, List.setIfInBounds_toArray, List.set_cons_zero, List.set_cons_succ, i64_w, i32_w]
    rfl
  refine pure_ (i := 2) (N := some 14) (v := ?_) (a' := ?_) #[true, true, true, false, false, false, false, false, false, false, false] rfl rfl (by kernel_rfl) (fun _ _ _ h => h) (Or.inl ⟨by rfl, ?_⟩) ?_ ?_
  rotate_left
  · intro w'
    go_simp
    with_reducible rfl
  rotate_left
  · simp only [Act.put, List.setIfInBounds_toArray, List.set_cons_zero, List.set_cons_succ, i64_w, i32_w]
    rfl
  refine pure_ (i := 3) (N := some 15) (v := ?_) (a' := ?_) #[true, true, true, true, false, false, false, false, false, false, false] rfl rfl (by kernel_rfl) (fun _ _ _ h => h) (Or.inl ⟨by rfl, ?_⟩) ?_ ?_
  rotate_left
  · intro w'
    go_simp
    with_reducible rfl
  rotate_left
  · simp only [Act.put, List.setIfInBounds_toArray, List.set_cons_zero, List.set_cons_succ, i64_w, i32_w]
    rfl
  refine take_ (i := 4) (N := some 16) (v := ?_) (a' := ?_) #[true, true, true, true, true, false, false, false, false, false, false] rfl rfl (by kernel_rfl) (fun _ _ _ h => h) (Or.inl ⟨by rfl, ?_⟩) hHeld ?_ ?_
  rotate_left
  · rintro w' ⟨s0, s1, s2, s3⟩
    go_simp
    with_reducible rfl
  rotate_left
  · simp only [Act.put, List.setIfInBounds_toArray, List.set_cons_zero, List.set_cons_succ, i64_w, i32_w]
    rfl
  refine take_ (i := 5) (N := some 17) (v := ?_) (a' := ?_) #[true, true, true, true, true, true, false, false, false, false, false] rfl rfl (by kernel_rfl) (fun _ _ _ h => h) (Or.inl ⟨by rfl, ?_⟩) hHeld ?_ ?_
  rotate_left
  · rintro w' ⟨s0, s1, s2, s3⟩
    go_simp
    with_reducible rfl
  rotate_left
  · simp only [Act.put, List.setIfInBounds_toArray, List.set_cons_zero, List.set_cons_succ, i64_w, i32_w]
    rfl
  refine one_ (i := 6) (N := some 18) #[true, true, true, true, true, true, true, false, false, false, false] rfl rfl (by kernel_rfl) (by decide) (fun K hK => ?_)
  refine value_ (w1 := wv.alloc (.cells #[.int .i64 p0, .int .i64 p1, .int .i64 p2] 33)) (v := .slice (some ⟨wv.heap.size, 0, none⟩) 1 1) (by rfl) rfl (by first | (go_simp; done) | (go_simp; rfl)) ?_
  refine hK.out _ _ ⟨(World.cell?_alloc_lt _ _ _ (World.block_lt_of_cell? _ _ hHeld.1)).trans hHeld.1, (World.cell?_alloc_lt _ _ _ (World.block_lt_of_cell? _ _ hHeld.2.1)).trans hHeld.2.1, (World.cell?_alloc_lt _ _ _ (World.block_lt_of_cell? _ _ hHeld.2.2.1)).trans hHeld.2.2.1, (World.cell?_alloc_lt _ _ _ (World.block_lt_of_cell? _ _ hHeld.2.2.2)).trans hHeld.2.2.2⟩ (fun hHeld => ?_)
  clear hK K
  refine norm_ (a' := ?_) ?_ ?_
  rotate_left
  · show Act.put _ (some 18) _ = _
    simp only [Act.put, List.setIfInBounds_toArray, List.set_cons_zero, List.set_cons_succ, i64_w, i32_w]
    rfl
  refine one_ (i := 7) (N := some 19) #[true, true, true, true, true, true, true, true, false, false, false] rfl rfl (by kernel_rfl) (by decide) (fun K hK => ?_)
  refine app3 base (by rfl) _ _ rfl (.slice A xs.length c) xs (p0, p1, p2) rfl rfl HH.out.2.2 (Nat.le_of_lt (Nat.lt_of_le_of_lt HH.out.1 (blk_lt HH.out.2.1))) HL.out ?_
  intro v1 w1 hR hg hat
  obtain ⟨A1, c1, e1⟩ := Kd.R_slice hR
  subst e1
  have HV := Aside0.mk hR
  have HG := Aside0.mk hg
  have HAT := Aside0.mk hat
  have hb0 : w1.heap[b]? = some (.cells #[.slice A xs.length c] 49 (0, 0)) := (hg.block b (blk_lt HH.out.2.1) (fun e => IsH.own HH.out e.symm)).trans HH.out.2.1
  have hbx : w1.heap[gx]? = some (.cells #[.int .i64 p0, .int .i64 p1, .int .i64 p2] 33 (0, 0)) := (hg.block gx (blk_lt BX.out) (fun e => NX.out e.symm)).trans BX.out
  have HB0 := Aside0.mk hb0
  have hfz := blk_frozen hb0 0
  clear hR hg hat
  refine hK.out _ _ ⟨(blk_cell hb0 0).trans rfl, (blk_cell hbx 0).trans rfl, (blk_cell hbx 1).trans rfl, (blk_cell hbx 2).trans rfl⟩ (fun hHeld => ?_)
  clear hK K
  refine norm_ (a' := ?_) ?_ ?_
  rotate_left
  · show Act.put _ (some 19) _ = _
    simp only [Act.put, List.setIfInBounds_toArray, List.set_cons_zero, List.set_cons_succ, i64_w, i32_w]
    rfl
  refine pure_ (i := 8) (N := some 20) (v := ?_) (a' := ?_) #[true, true, true, true, true, true, true, true, true, false, false] rfl rfl (by kernel_rfl) (fun _ _ _ h => h) (Or.inl ⟨by rfl, ?_⟩) ?_ ?_
  rotate_left
  · intro w'
    go_simp
    with_reducible rfl
  rotate_left
  · simp only [Act.put, List.setIfInBounds_toArray, List.set_cons_zero, List.set_cons_succ, i64_w, i32_w]
    rfl
  refine pure_ (i := 9) (N := some 21) (v := ?_) (a' := ?_) #[true, true, true, true, true, true, true, true, true, true, false] rfl rfl (by kernel_rfl) (fun _ _ _ h => h) (Or.inl ⟨by rfl, ?_⟩) ?_ ?_
  rotate_left
  · intro w'
    go_simp
    with_reducible rfl
  rotate_left
  · simp only [Act.put, List.setIfInBounds_toArray, List.set_cons_zero, List.set_cons_succ, i64_w, i32_w]
    rfl
  refine last_ (i := 10) (N := none) #[true, true, true, true, true, true, true, true, true, true, true] rfl rfl (by kernel_rfl) (by decide) (fun K hK => ?_)
  have hc0 : w1.cell? ⟨b, 0, none⟩ = some (.slice A xs.length c) := (blk_cell HB0.out 0).trans rfl
  refine skip_ (w1 := ?_) (by rfl) rfl ?_ ?_
  rotate_left
  · go_simp
    rfl
  refine hK.out _ _ ?_
  clear hK K
  refine done_ (by kernel_rfl) ?_
  (try go_wp2)
  refine bodyPost_end (results_none rfl _ _ _) rfl ?_
  have hv := HV.out
  have hat := HAT.out
  have hen : (xs ++ [(p0, p1, p2)]).length = xs.length + 1 := by simp
  rw [hen] at hv hat
  refine ⟨rfl, _, ⟨H0.out.1, blk_put HB0.out 0 _ rfl, Kd.R_far hv (fun k hk => ?_) _⟩, (HK.of_below HB.out b _).trans (HK.setb (HK.of_grown HG.out b) _) (At.refl _ _), ?_⟩
  · intro e
    subst e
    exact absurd (own_typed_ hv hk) (fun ⟨cs, e⟩ => by rw [HB0.out] at e; injection e with e; injection e with _ e; exact absurd e (by decide))
  · exact At.trans (HK.of_below HB.out b _) (At.refl _ _) hat
theorem add0 (A : Option Addr) : A.map (fun x => x.add 0) = A := by cases A <;> simp [Addr.add]
theorem sl33 (w : World) (A : Option Addr) (n c m : Nat) (h : m ≤ c) : (Instr.slice 26 (.slice A n c) none (some (.int .i64 (m : Int))) none).run Try.prog w = .ok (.slice A m c) w := by
  have h := run_slice_h (P := Try.prog) w 26 A n c und26 .i64 (m : Int) (by omega) (by omega)
  rw [h, show (sizeOf (Try.prog.elem 26)).run Try.prog w = .ok 3 w from Try.sizeOf33 w]
  simp only [sliced, Int.toNat_natCast, Nat.sub_zero]
  simp [Try.sizeOf33, Result.andThen, add0]
set_option maxHeartbeats 8000000 in
set_option maxRecDepth 100000 in
theorem pop_ (base b : Nat) (v : Value) (ys : List It) (p0 p1 p2 : Int) (hl : ys.length ≤ 1000000) (w : World) (h : IsH w base b v (ys ++ [(p0, p1, p2)])) : Calls Try.prog 46 #[.pointer (some ⟨b, 0, none⟩)] w fun e w' => e = .returned (.iface 33 (.agg #[.int .i64 p0, .int .i64 p1, .int .i64 p2])) ∧ Goes w w' base b v ys := by
  have hen : (ys ++ [(p0, p1, p2)]).length = ys.length + 1 := by simp
  obtain ⟨A, c, rfl⟩ := Kd.R_slice h.2.2
  obtain ⟨n, hn⟩ : ∃ n, n = ys.length + 1 := ⟨_, rfl⟩
  rw [hen, ← hn] at h ⊢
  obtain ⟨ad, rfl, hz1, hz2, hz3⟩ := at_H (Kd.R_reads' h.2.2).2.2 ys.length (by omega)
  have hri : ri (ys ++ [(p0, p1, p2)]) ys.length = (p0, p1, p2) := by unfold ri; simp
  rw [hri] at hz1 hz2 hz3
  have HH := Aside0.mk h
  have H0 := Aside0.mk h
  have HE := Aside0.mk hen
  have hcap : ys.length ≤ c := by have := (Kd.R_reads' h.2.2).2.1; omega
  have hw1 : wrap64 ((n : Int) - 1) = (ys.length : Int) := by unfold wrap64; omega
  have hw2 : IntKind.i64.wrap ((n : Int) - 1) = (ys.length : Int) := by rw [i64_w]; exact hw1
  have hc0 := IsH.cell h
  have hq1 : ((ys.length : Int) < (n : Int)) = True := eq_true (by omega)
  have hq2 : (0 ≤ (ys.length : Int)) = True := eq_true (by omega)
  have hs : ∀ w, (Instr.slice 26 (.slice (some ad) n c) none (some (.int .i64 (ys.length : Int))) none).run Try.prog w = .ok (.slice (some ad) ys.length c) w := fun w => sl33 w _ _ _ _ hcap
  have HN := Aside0.mk hn
  clear h hl hcap hen hri hn
  go_enter Try.func46, Try.ntmps46
  go_wp2_with (first | ((with_reducible refine gate_dst (N := 4) rfl ?_); refine box_event ?hg (N := 4) ?hd (cs := #[.int .i64 0, .int .i64 0, .int .i64 0]) (t := 33) ?hr ?_; (case hd => rfl); (case hg => rfl); (case hr => first | (go_simp; done) | (go_simp; rfl)); intro gx hg_ wv hbox hb; have HB := Aside0.mk hb; have NX := Aside0.mk (show (Value.slice (some ad) n c).ownBlock ≠ some gx from fun e => by have := Kd.R_lt HH.out.2.2 _ e; omega); have SX := Aside0.mk (Nat.le_of_eq hg_.symm); replace HH := Aside0.mk (HH.out.step hb); have BX := Aside0.mk hbox; clear hbox hg_ hb; clear hc0 hz1 hz2 hz3; have hc0 : wv.cell? ⟨b, 0, none⟩ = some (.slice (some ad) n c) := (blk_cell HH.out.2.1 0).trans rfl) | ((with_reducible refine gate_store (t := 33) (p := 4) rfl ?_); refine wpList_store_row rfl 33 _ _ rfl gx #[.int .i64 p0, .int .i64 p1, .int .i64 p2] rfl rfl 33 #[.int .i64 0, .int .i64 0, .int .i64 0] BX.out (by kernel_rfl) rfl (by simp [Value.oneCell']) ?_; replace HH := Aside0.mk (IsH.setr HH.out NX.out BX.out #[.int .i64 p0, .int .i64 p1, .int .i64 p2]); replace HB := Aside0.mk (below_setRow HB.out SX.out #[.int .i64 p0, .int .i64 p1, .int .i64 p2]); replace BX := Aside0.mk (setRow_heap _ _ _ #[.int .i64 p0, .int .i64 p1, .int .i64 p2] _ _ BX.out); clear hc0; generalize wv.setRow gx #[.int .i64 p0, .int .i64 p1, .int .i64 p2] = wv at HB HH BX ⊢; have hc0 : wv.cell? ⟨b, 0, none⟩ = some (.slice (some ad) n c) := (blk_cell HH.out.2.1 0).trans rfl; have hfz := blk_frozen HH.out.2.1 0) | ((with_reducible refine gate_store (t := 26) (p := 26) rfl ?_); refine store_event (t := 26) (p := 26) (v := .tmp 24) (w1 := (wv.setCell ⟨b, 0, none⟩ (.slice (some ad) ys.length c))) ?hg ?ho ?hn ?hr ?_; (case ho => rfl); (case hg => rfl); (case hn => rfl); (case hr => first | (go_simp; done) | (go_simp; rfl)); intro wy hw; have HW := Aside0.mk hw; replace BX := Aside0.mk (show wy.heap[gx]? = some (.cells #[.int .i64 p0, .int .i64 p1, .int .i64 p2] 33 (0, 0)) by rw [hw]; exact blk_far BX.out (blk_ne BX.out HH.out.2.1 (by decide)) _); clear hw hc0 hfz) | ((with_reducible refine gate_dst (N := 27) rfl ?_); refine wpList_load_row rfl 33 (.tmp 4) rfl gx rfl 33 #[.int .i64 p0, .int .i64 p1, .int .i64 p2] (0, 0) _ BX.out Try.underlying33 rfl (by kernel_rfl) ?_))
  first | go_ret | go_ret2
  have hw := HW.out
  have hT : Kd.R kdi 33 wv base (fun k => some k = (Value.slice (some ad) ys.length c).ownBlock) (.slice (some ad) ys.length c) ys := by
    have h1 := HH.out.2.2
    have h2 := Kd.R_take h1 (m := ys.length) (by rw [HE.out]; omega)
    rw [List.take_left' rfl] at h2
    exact h2
  subst hw
  refine ⟨rfl, _, ⟨HH.out.1, blk_put HH.out.2.1 0 _ rfl, Kd.R_far hT (fun k hk => ?_) _⟩, HK.setb (HK.of_below HB.out b _) _, .inl rfl⟩
  intro e
  subst e
  exact absurd (own_typed_ hT hk) (fun ⟨cs, e⟩ => by rw [HH.out.2.1] at e; injection e with e; injection e with _ e; exact absurd e (by decide))
end Go.Proofs.Ytojaflnejkbjnaa.Hp4
