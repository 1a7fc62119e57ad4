/- The items' Clone; Heap.Push, Heap.Peek and Heap.Pop. -/
import Derived.Test.YtojaflnejkbjnaaHp6
import Derived.Lib.SliceRun
namespace Go.Proofs.Ytojaflnejkbjnaa.Hp7
open Go.RowKit Go.Proofs.YtojaflnejkbjnaaW.PrintWords Go.Proofs.YtojaflnejkbjnaaW.PrintLast Go.Proofs.YtojaflnejkbjnaaW.PrintMore Go.Proofs.Ytojaflnejkbjnaa.Hp1 Go.Proofs.Ytojaflnejkbjnaa.Hp2 Go.Proofs.Ytojaflnejkbjnaa.Hp3 Go.Proofs.Ytojaflnejkbjnaa.Hp4 Go.Proofs.Ytojaflnejkbjnaa.Hp5 Go.Proofs.Ytojaflnejkbjnaa.Hp6
attribute [local go_sem] max2_int min2_int max_two min_two max_three min_three max_four min_four
set_option linter.unusedVariables false
set_option linter.unusedSimpArgs false
theorem app3R {ops : Array Oper} {rest : List Oper} {o : Oper} {a : Act} {Q : Exit → Act → World → Prop} {W : World} (base : Nat) (hgd : o.guard = none) (s x : Operand) (ho : o.op = .call { callee := .builtin .append, args := #[s, x], argTypes := #[26, 26] }) (v : Value) (xs ys : List It) (A : Option Addr) (m c : Nat) (hs : a.eval s = v) (hx : a.eval x = .slice A m c)
    (HO : Kd.R kdi 33 W base (fun _ => True) v xs) (HR : Kd.C kdi W A m ys) (hbase : base ≤ W.heap.size) (hl : xs.length + m ≤ 1000000)
    (h : ∀ v1 w1, Kd.R kdi 33 w1 base (fun _ => True) v1 (xs ++ ys) → W.grownBy w1 v.ownBlock → At W v v1 → wpList Try.prog ops Q rest (a.put o.dst v1) w1) :
    wpList Try.prog ops Q (o :: rest) a W :=
  Kd.R_append_rows kdi (w0 := W) base hgd s x 26 33 (.agg #[(.int .i64 0), (.int .i64 0), (.int .i64 0)]) 24 ho und26 inf33 rfl (by decide) (by omega) v xs ys A m c (fun _ => True) (fun _ => False) hs hx HO HR (fun x cs h => by obtain ⟨_, _, rfl, rfl, ⟨_, _, rfl, rfl, rfl⟩⟩ := h; exact kdi_mk _ _ _ x) (fun _ hk => hk.elim) (fun _ _ => trivial) (Below.mk rfl rfl rfl (Nat.le_refl _) (fun _ _ => rfl)) hbase (by omega) (fun v1 w1 h1 _ h3 h4 => h v1 w1 h1 h3 h4)
set_option maxHeartbeats 8000000 in
set_option maxRecDepth 100000 in
theorem clone3 (A : Option Addr) (c : Nat) (xs : List It) (w : World) (hr : Kd.C kdi w A xs.length xs) (hl : xs.length ≤ 1000000) : Calls Try.prog 17 #[.slice A xs.length c] w fun e w' => ∃ v, e = .returned v ∧ Kd.R kdi 33 w' w.heap.size (fun _ => True) v xs ∧ Below w.heap.size w w' := by
  have q22 : ∀ (w : World) (a : Option Addr) (n c n' c' : Nat), (binOp .eql 26 (.slice a n c) (.slice none n' c')).run Try.prog w = .ok (.bool a.isNone) w := fun w a n c n' c' => Go.Lib.run_eql_slice_nil w _ _ a n c n' c' und26
  cases A with
  | none =>
    have h0 : xs.length = 0 := by
      rcases Nat.eq_zero_or_pos xs.length with h | h
      · exact h
      · obtain ⟨_, h, _⟩ := hr.2.2 h
        cases h
    obtain rfl := List.eq_nil_of_length_eq_zero h0
    clear h0 hr
    go_enter Try.func17, Try.ntmps17
    go_wp2
    go_ret
    exact ⟨_, rfl, Kd.R_nil _ _ _ _ _, Below.refl _ _⟩
  | some ad =>
    have HC := Aside0.mk hr
    have HL := Aside0.mk hl
    have HB := Aside0.mk (Below.refl w.heap.size w)
    clear hr hl
    go_enter Try.func17, Try.ntmps17
    go_wp2_with (first | ((with_reducible refine gate_dst (N := 5) rfl ?_); refine Kd.R_lit kdi (w0 := w) w.heap.size 33 ?hg (N := 5) ?hd (xs := ([] : List It)) (inner := []) (ok := fun _ => True) (okp := fun _ => True) ?hr ?hp (fun _ hk => hk) trivial HB.out (below_size HB.out) (by simp) ?_; (case hd => rfl); (case hg => rfl); (case hr => first | (go_simp; done) | (go_simp; rfl)); (case hp => exact Reps.none _ _); intro v1 w1 ho hb hg hat; have HO := Aside0.mk ho; replace HB := Aside0.mk hb; clear ho hb hg hat; obtain ⟨A1, c1, e1⟩ := Kd.R_slice HO.out; subst e1) | (at_builtin; refine app3R w.heap.size rfl _ _ rfl _ [] xs (some ad) xs.length c rfl rfl HO.out (Kd.C_below HC.out HB.out) (below_size HB.out) (by have := HL.out; simp; omega) ?_; intro v2 w2 ho hg hat; rw [List.nil_append] at ho; have HO2 := Aside0.mk ho; replace HB := Aside0.mk (HB.out.grown hg (below_size HB.out) (fun z hz => Kd.R_base HO.out z hz)); clear ho hg hat))
    go_ret
    exact ⟨_, rfl, HO2.out, HB.out⟩
theorem blk_hk {w w' : World} {b g : Nat} {v : Value} {o : Obj} (h : w.heap[g]? = some o) (hk : HK w w' b v) (h1 : g ≠ b) (h2 : v.ownBlock ≠ some g) : w'.heap[g]? = some o := (hk.block g (blk_lt h) h1 (fun e => h2 e.symm)).trans h
theorem IsH.lt {w : World} {base b : Nat} {v : Value} {xs : List It} (h : IsH w base b v xs) : b < w.heap.size := blk_lt h.2.1
theorem IsH.olt {w : World} {base b : Nat} {v : Value} {xs : List It} (h : IsH w base b v xs) {g : Nat} (hg : w.heap.size ≤ g) : v.ownBlock ≠ some g := fun e => by
  have := Kd.R_lt h.2.2 g e
  omega
set_option maxHeartbeats 8000000 in
set_option maxRecDepth 100000 in
theorem hpush_ (base b : Nat) (v : Value) (xs : List It) (p0 p1 p2 : Int) (hl : xs.length ≤ 1000000) (w : World) (h : IsH w base b v xs) : Calls Try.prog 13 #[.pointer (some ⟨b, 0, none⟩), .agg #[.int .i64 p0, .int .i64 p1, .int .i64 p2]] w fun e w' => e = .returned (.tuple #[]) ∧ Goes w w' base b v (pushL xs (p0, p1, p2)) := by
  have HH := Aside0.mk h
  have HL := Aside0.mk hl
  have HG := Aside0.mk trivial
  clear h hl
  go_enter Try.func13, Try.ntmps13
  go_wp2_with (first | ((with_reducible refine gate_dst (N := 3) rfl ?_); refine box_event ?hg (N := 3) ?hd (cs := #[.int .i64 p0, .int .i64 p1, .int .i64 p2]) (t := 33) ?hr ?_; (case hd => rfl); (case hg => rfl); (case hr => first | (go_simp; done) | (go_simp; rfl)); intro gx hg_ wv hbox hb; have HB := Aside0.mk hb; replace HH := Aside0.mk (Hp2.IsH.step HH.out hb); have BX := Aside0.mk hbox; clear hbox hg_ hb))
  refine start_ (n := 7) (S := fun w' => w'.cell? ⟨gx, 0, none⟩ = some (.int .i64 p0) ∧ w'.cell? ⟨gx, 1, none⟩ = some (.int .i64 p1) ∧ w'.cell? ⟨gx, 2, none⟩ = some (.int .i64 p2)) (ds := [6]) #[false, false, false, false, false, false, false] (by kernel_rfl) rfl rfl ⟨(blk_cell BX.out 0).trans rfl, (blk_cell BX.out 1).trans rfl, (blk_cell BX.out 2).trans rfl⟩ (fun hHeld => ?_)
  replace HH := Aside0.mk (show IsH wv.drew base b _ xs from HH.out)
  replace BX := Aside0.mk (show wv.drew.heap[gx]? = _ from BX.out)
  replace HB := Aside0.mk (HB.out.drew)
  generalize wv.drew = wv at HH HB BX hHeld ⊢
  refine pure_ (i := 0) (N := some 6) (v := ?_) (a' := ?_) #[true, false, false, false, false, false, false] rfl rfl (by kernel_rfl) (fun _ _ _ h => h) (Or.inl ⟨by rfl, ?_⟩) ?_ ?_
  rotate_left
  · intro w'
    go_simp
    with_reducible rfl
  rotate_left
  · simp only [Act.put, List.setIfInBounds_toArray, List.set_cons_zero, List.set_cons_succ, i64_w, i32_w]
    rfl
  refine pure_ (i := 1) (N := some 7) (v := ?_) (a' := ?_) #[true, true, false, false, false, false, false] rfl rfl (by kernel_rfl) (fun _ _ _ h => h) (Or.inl ⟨by rfl, ?_⟩) ?_ ?_
  rotate_left
  · intro w'
    go_simp
    with_reducible rfl
  rotate_left
  · simp only [Act.put, List.setIfInBounds_toArray, List.set_cons_zero, List.set_cons_succ, i64_w, i32_w]
    rfl
  refine pure_ (i := 2) (N := some 8) (v := ?_) (a' := ?_) #[true, true, true, false, false, false, false] rfl rfl (by kernel_rfl) (fun _ _ _ h => h) (Or.inl ⟨by rfl, ?_⟩) ?_ ?_
  rotate_left
  · intro w'
    go_simp
    with_reducible rfl
  rotate_left
  · simp only [Act.put, List.setIfInBounds_toArray, List.set_cons_zero, List.set_cons_succ, i64_w, i32_w]
    rfl
  refine pure_ (i := 3) (N := some 9) (v := ?_) (a' := ?_) #[true, true, true, true, false, false, false] rfl rfl (by kernel_rfl) (fun _ _ _ h => h) (Or.inl ⟨by rfl, ?_⟩) ?_ ?_
  rotate_left
  · intro w'
    go_simp
    with_reducible rfl
  rotate_left
  · simp only [Act.put, List.setIfInBounds_toArray, List.set_cons_zero, List.set_cons_succ, i64_w, i32_w]
    rfl
  refine take_ (i := 4) (N := some 10) (v := ?_) (a' := ?_) #[true, true, true, true, true, false, false] rfl rfl (by kernel_rfl) (fun _ _ _ h => h) (Or.inl ⟨by rfl, ?_⟩) hHeld ?_ ?_
  rotate_left
  · rintro w' ⟨s0, s1, s2⟩
    go_simp
    with_reducible rfl
  rotate_left
  · simp only [Act.put, List.setIfInBounds_toArray, List.set_cons_zero, List.set_cons_succ, i64_w, i32_w]
    rfl
  refine pure_ (i := 5) (N := some 11) (v := ?_) (a' := ?_) #[true, true, true, true, true, true, false] rfl rfl (by kernel_rfl) (fun _ _ _ h => h) (Or.inl ⟨by rfl, ?_⟩) ?_ ?_
  rotate_left
  · intro w'
    go_simp
    with_reducible rfl
  rotate_left
  · simp only [Act.put, List.setIfInBounds_toArray, List.set_cons_zero, List.set_cons_succ, i64_w, i32_w]
    rfl
  refine last_ (i := 6) (N := some 12) #[true, true, true, true, true, true, true] rfl rfl (by kernel_rfl) (by decide) (fun K hK => ?_)
  refine goes_ Try.func21 (by kernel_rfl) rfl #[.iface 51 (.pointer (some ⟨b, 0, none⟩)), .iface 33 (.agg #[.int .i64 p0, .int .i64 p1, .int .i64 p2])] (by rfl) rfl rfl (by first | rfl | (simp only [List.map_toArray, List.map_cons, List.map_nil]; rfl)) ?_
  with_reducible refine (cpush_ base b v xs p0 p1 p2 HL.out _ HH.out).mono ?_
  rintro e wv ⟨rfl, hg⟩
  replace HG := Aside0.mk (Goes.below HB.out hg)
  clear hg
  refine ⟨_, rfl, ?_⟩
  refine hK.out _ _ ?_
  clear hK K
  refine norm_ (a' := ?_) ?_ ?_
  rotate_left
  · show Act.put _ (some 12) _ = _
    simp only [Act.put, List.setIfInBounds_toArray, List.set_cons_zero, List.set_cons_succ, i64_w, i32_w]
    rfl
  refine done_ (by kernel_rfl) ?_
  (try go_wp2)
  (try refine bodyPost_end (results_none rfl _ _ _) rfl ?_)
  exact ⟨rfl, HG.out⟩
set_option maxHeartbeats 8000000 in
set_option maxRecDepth 100000 in
theorem npush_ (p0 p1 p2 : Int) (w : World) : Calls Try.prog 13 #[.pointer none, .agg #[.int .i64 p0, .int .i64 p1, .int .i64 p2]] w fun e w' => e = .returned (.tuple #[]) ∧ Below w.heap.size w w' := by
  go_enter Try.func13, Try.ntmps13
  go_wp2_with (first | ((with_reducible refine gate_dst (N := 3) rfl ?_); refine box_event ?hg (N := 3) ?hd (cs := #[.int .i64 p0, .int .i64 p1, .int .i64 p2]) (t := 33) ?hr ?_; (case hd => rfl); (case hg => rfl); (case hr => first | (go_simp; done) | (go_simp; rfl)); intro gx hg_ wv hbox hb; have HB := Aside0.mk hb; clear hbox hg_ hb))
  (try refine bodyPost_end (results_none rfl _ _ _) rfl ?_)
  exact ⟨rfl, HB.out⟩
set_option maxHeartbeats 8000000 in
set_option maxRecDepth 100000 in
theorem peek_n (w : World) : Calls Try.prog 15 #[.pointer none] w fun e w' => e = .returned (.tuple #[.agg #[.int .i64 0, .int .i64 0, .int .i64 0], .bool false]) ∧ Below w.heap.size w w' := by
  go_enter Try.func15, Try.ntmps15
  go_wp2_with (first | ((with_reducible refine gate_dst (N := 2) rfl ?_); refine box_event ?hg (N := 2) ?hd (cs := #[.int .i64 0, .int .i64 0, .int .i64 0]) (t := 33) ?hr ?_; (case hd => rfl); (case hg => rfl); (case hr => first | (go_simp; done) | (go_simp; rfl)); intro gX hg_ wv hbox hb; have SX := Aside0.mk (Nat.le_of_eq hg_.symm); have BX := Aside0.mk hbox; have HB := Aside0.mk hb; clear hbox hg_ hb) | (go_at_call 11; (with_reducible refine (nlen_ _).mono ?_); rintro e wv ⟨rfl, hb⟩; replace HB := Aside0.mk (below_step HB.out hb); replace BX := Aside0.mk (blk_below BX.out hb); clear hb) | ((with_reducible refine gate_store (t := 33) (p := 2) rfl ?_); refine wpList_store_row rfl 33 _ _ rfl gX #[.int .i64 0, .int .i64 0, .int .i64 0] rfl rfl 33 #[.int .i64 0, .int .i64 0, .int .i64 0] BX.out (by kernel_rfl) rfl (by simp [Value.oneCell']) ?_; replace HB := Aside0.mk (below_setRow HB.out SX.out #[.int .i64 0, .int .i64 0, .int .i64 0]); replace BX := Aside0.mk (setRow_heap _ _ _ #[.int .i64 0, .int .i64 0, .int .i64 0] _ _ BX.out); generalize wv.setRow gX #[.int .i64 0, .int .i64 0, .int .i64 0] = wv at HB BX ⊢))
  refine bodyPost_ret (results_ct rfl _ _ gX 33 _ (0, 0) _ rfl BX.out Try.underlying33 rfl (by kernel_rfl)) rfl ?_
  exact ⟨rfl, HB.out⟩
set_option maxHeartbeats 8000000 in
set_option maxRecDepth 100000 in
theorem peek_e (base b : Nat) (v : Value) (w : World) (h : IsH w base b v []) : Calls Try.prog 15 #[.pointer (some ⟨b, 0, none⟩)] w fun e w' => e = .returned (.tuple #[.agg #[.int .i64 0, .int .i64 0, .int .i64 0], .bool false]) ∧ Below w.heap.size w w' := by
  obtain ⟨xs, hxs⟩ : ∃ xs : List It, xs = [] := ⟨_, rfl⟩
  rw [← hxs] at h
  have hz : xs.length = 0 := by rw [hxs]; rfl
  have q1 : ((xs.length : Int) == 0) = true := by rw [hz]; rfl
  have HH := Aside0.mk h
  clear h hxs hz
  go_enter Try.func15, Try.ntmps15
  go_wp2_with (first | ((with_reducible refine gate_dst (N := 2) rfl ?_); refine box_event ?hg (N := 2) ?hd (cs := #[.int .i64 0, .int .i64 0, .int .i64 0]) (t := 33) ?hr ?_; (case hd => rfl); (case hg => rfl); (case hr => first | (go_simp; done) | (go_simp; rfl)); intro gX hg_ wv hbox hb; have SX := Aside0.mk (Nat.le_of_eq hg_.symm); have BX := Aside0.mk hbox; have HB := Aside0.mk hb; replace HH := Aside0.mk (Hp2.IsH.step HH.out hb); clear hbox hg_ hb) | (go_at_call 11; (with_reducible refine (hlen_ base b v xs _ HH.out).mono ?_); rintro e wv ⟨rfl, hb⟩; replace HB := Aside0.mk (below_step HB.out hb); replace HH := Aside0.mk (Hp2.IsH.step HH.out hb); replace BX := Aside0.mk (blk_below BX.out hb); clear hb) | ((with_reducible refine gate_store (t := 33) (p := 2) rfl ?_); refine wpList_store_row rfl 33 _ _ rfl gX #[.int .i64 0, .int .i64 0, .int .i64 0] rfl rfl 33 #[.int .i64 0, .int .i64 0, .int .i64 0] BX.out (by kernel_rfl) rfl (by simp [Value.oneCell']) ?_; replace HB := Aside0.mk (below_setRow HB.out SX.out #[.int .i64 0, .int .i64 0, .int .i64 0]); replace BX := Aside0.mk (setRow_heap _ _ _ #[.int .i64 0, .int .i64 0, .int .i64 0] _ _ BX.out); generalize wv.setRow gX #[.int .i64 0, .int .i64 0, .int .i64 0] = wv at HB BX ⊢))
  refine bodyPost_ret (results_ct rfl _ _ gX 33 _ (0, 0) _ rfl BX.out Try.underlying33 rfl (by kernel_rfl)) rfl ?_
  exact ⟨rfl, HB.out⟩
set_option maxHeartbeats 8000000 in
set_option maxRecDepth 100000 in
theorem peek_y (base b : Nat) (v : Value) (xs : List It) (p0 p1 p2 : Int) (hp : 0 < xs.length) (hx : ri xs 0 = (p0, p1, p2)) (w : World) (h : IsH w base b v xs) : Calls Try.prog 15 #[.pointer (some ⟨b, 0, none⟩)] w fun e w' => e = .returned (.tuple #[.agg #[.int .i64 p0, .int .i64 p1, .int .i64 p2], .bool true]) ∧ Below w.heap.size w w' := by
  obtain ⟨A, c, rfl⟩ := Kd.R_slice h.2.2
  obtain ⟨ad, rfl, _⟩ := at_H (Kd.R_reads' h.2.2).2.2 0 hp
  obtain ⟨v, hv⟩ : ∃ v, Value.slice (some ad) xs.length c = v := ⟨_, rfl⟩
  rw [hv] at h
  have HV := Aside0.mk hv
  have q1 : ((xs.length : Int) == 0) = false := beq_eq_false_iff_ne.mpr (by omega)
  have q2 : (0 < (xs.length : Int)) = True := eq_true (by omega)
  have q3 : (0 < xs.length) = True := eq_true hp
  have q4 : (xs = []) = False := eq_false (fun e => by rw [e] at hp; exact absurd hp (Nat.lt_irrefl 0))
  have HP := Aside0.mk (show 0 < xs.length ∧ ri xs 0 = (p0, p1, p2) from ⟨hp, hx⟩)
  have HH := Aside0.mk h
  clear h hp hx hv
  go_enter Try.func15, Try.ntmps15
  go_wp2_with (first | ((with_reducible refine gate_dst (N := 2) rfl ?_); refine box_event ?hg (N := 2) ?hd (cs := #[.int .i64 0, .int .i64 0, .int .i64 0]) (t := 33) ?hr ?_; (case hd => rfl); (case hg => rfl); (case hr => first | (go_simp; done) | (go_simp; rfl)); intro gX hg_ wv hbox hb; have SX := Aside0.mk (Nat.le_of_eq hg_.symm); have BX := Aside0.mk hbox; have HB := Aside0.mk hb; replace HH := Aside0.mk (Hp2.IsH.step HH.out hb); clear hbox hg_ hb) | (go_at_call 11; (with_reducible refine (hlen_ base b v xs _ HH.out).mono ?_); rintro e wv ⟨rfl, hb⟩; replace HB := Aside0.mk (below_step HB.out hb); replace HH := Aside0.mk (Hp2.IsH.step HH.out hb); replace BX := Aside0.mk (blk_below BX.out hb); clear hb; have hH := HH.out; rw [← HV.out] at hH; have hc0 := Hp2.IsH.cell hH; obtain ⟨hz1, hz2, hz3⟩ := at3 hH HP.out; rw [Nat.zero_mul] at hz1 hz2 hz3; rw [show ad.add 0 = ad by cases ad; rfl] at hz1 hz2 hz3; clear hH) | ((with_reducible refine gate_store (t := 33) (p := 2) rfl ?_); refine wpList_store_row rfl 33 _ _ rfl gX #[.int .i64 p0, .int .i64 p1, .int .i64 p2] rfl rfl 33 #[.int .i64 0, .int .i64 0, .int .i64 0] BX.out (by kernel_rfl) rfl (by simp [Value.oneCell']) ?_; replace HB := Aside0.mk (below_setRow HB.out SX.out #[.int .i64 p0, .int .i64 p1, .int .i64 p2]); replace BX := Aside0.mk (setRow_heap _ _ _ #[.int .i64 p0, .int .i64 p1, .int .i64 p2] _ _ BX.out); generalize wv.setRow gX #[.int .i64 p0, .int .i64 p1, .int .i64 p2] = wv at HB BX ⊢))
  refine bodyPost_ret (results_ct rfl _ _ gX 33 _ (0, 0) _ rfl BX.out Try.underlying33 rfl (by kernel_rfl)) rfl ?_
  exact ⟨rfl, HB.out⟩
end Go.Proofs.Ytojaflnejkbjnaa.Hp7
