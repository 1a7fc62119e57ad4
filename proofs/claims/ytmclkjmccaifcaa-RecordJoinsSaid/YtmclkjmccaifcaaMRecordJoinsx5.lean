/- Written by a program of this session: Go functions that the law RecordJoins reaches, as Lean functions, each with a proof that the Go code comes to just what it says; every input of the kinds that a contract names. -/
import Derived.Test.YtmclkjmccaifcaaMRecordJoinsx0
import Derived.Test.YtmclkjmccaifcaaMRecordJoinsx2
import Derived.Test.YtmclkjmccaifcaaMRecordJoinsx3
import Derived.Test.YtmclkjmccaifcaaMRecordJoinsx4
namespace Go.Proofs.Ytmclkjmccaifcaa.MRecordJoins
open Go.RowKit Go.Proofs.YtmclkjmccaifcaaW.PrintWords Go.Proofs.YtmclkjmccaifcaaW.PrintLast Go.Proofs.YtmclkjmccaifcaaW.PrintMore
attribute [local go_sem] max2_int min2_int max_two min_two max_three min_three max_four min_four   -- for this text's walks alone
set_option linter.unusedVariables false
set_option linter.unusedSimpArgs false
set_option linter.unnecessarySimpa false

/-! ### record_Join: function 19 -/
def record_Join.f (k : Nat) (l0 : List (List (S47))) : Option ((List (S47)) × Int) := (api_Record_29.f l0).bind fun t168 => ((record_Normal.f k t168).bind fun bt171 => (some (bt171.1, bt171.2)))
theorem record_Join.mono : ∀ a0 k, LeO (record_Join.f k a0) (record_Join.f (k + 1) a0) := by
  intro a0 k
  unfold record_Join.f
  repeat' first
      | (with_reducible exact record_Normal.mono _ _)
      | (with_reducible exact LeO.refl _)
      | (with_reducible exact LeO.none _)
      | (with_reducible refine LeO.ite ?_ ?_)
      | (with_reducible refine LeO.bind ?_ (fun _ => ?_))
      | exact record_Normal.mono _ _
      | exact LeO.none _
      | refine LeO.ite ?_ ?_
      | refine LeO.bind ?_ (fun _ => ?_)
set_option maxHeartbeats 8000000 in
set_option maxRecDepth 100000 in
theorem record_Join.calls (k : Nat) (A0 : Option Addr) (c0 : Nat) (l0 : List (List (S47))) (r1 : List (S47)) (r2 : Int) (w : World) (hr0 : Kd.C (Kd.slice 47 k47) w A0 l0.length l0) (hc0 : l0.length ≤ c0) (h : record_Join.f k l0 = some (r1, r2)) :
    Calls Try.prog 19 #[.slice A0 l0.length c0] w fun e w' => ∃ v0_ : Value, e = .returned (.tuple #[v0_, .int .i64 r2]) ∧ Kd.R k47 47 w' w.heap.size (fun _ => True) v0_ r1 ∧ Below w.heap.size w w' := by
  have HR0 := Aside0.mk hr0
  have HC0 := Aside0.mk hc0
  clear hr0 hc0
  have HB := Aside0.mk (Below.refl w.heap.size w)
  have H : ((api_Record_29.f l0).bind fun t168 => ((record_Normal.f k t168).bind fun bt171 => (some (bt171.1, bt171.2)))) = some (r1, r2) := h
  clear h
  replace H := Option.bind_eq_some_iff.mp H
  obtain ⟨t168, A20, H⟩ := H
  replace H : ((record_Normal.f k t168).bind fun bt171 => (some (bt171.1, bt171.2))) = some (r1, r2) := H
  have A2 := Aside0.mk A20
  clear A20
  replace H := Option.bind_eq_some_iff.mp H
  obtain ⟨⟨t171, t172⟩, A30, H⟩ := H
  replace H : (some (t171, t172)) = some (r1, r2) := H
  have A3 := Aside0.mk A30
  clear A30
  simp only [Option.some.injEq, Prod.mk.injEq] at H
  obtain ⟨rfl, rfl⟩ := H
  go_enter Try.func19, Try.ntmps19
  go_wp2_with (first | ((with_reducible refine gate_callee (f := 29) rfl ?_); refine goesL_ (some 5) rfl rfl Try.func29 (by kernel_rfl) rfl #[.slice A0 l0.length c0] rfl (by (try simp only [List.map_toArray, List.map_cons, List.map_nil]); first | done | rfl | (simp only [List.length_drop, List.length_take]; rfl)) ?_; (with_reducible refine (api_Record_29.calls _ _ l0 t168 _ ?side1 ?side2 A2.out).mono ?_); (case side1 => repeat (first | exact HR0.out | (with_reducible refine Kd.C_alloc ?_ _) | (with_reducible refine Kd.C_drewN ?_ _) | (with_reducible refine Kd.C_drew ?_))); (case side2 => exact HC0.out); rintro e w4 ⟨v169, rfl, ho0, hb⟩; refine ⟨_, rfl, ?_⟩; have n0_ := Aside0.mk (Kd.R_lower ho0 (below_size (by repeat (first | (with_reducible first | exact HB.out | apply below_alloc | apply pw_below_drewN | apply below_drew1) | exact HB.out)))); have n1_ := Aside0.mk (below_step (by repeat (first | (with_reducible first | exact HB.out | apply below_alloc | apply pw_below_drewN | apply below_drew1) | exact HB.out)) hb); clear HB; have HO170 := n0_; have HB := n1_; clear n0_ n1_; (try clear hb); (try clear hb2); (try clear hk); (try clear hi); (try clear ho0); obtain ⟨Ao5, co5, eo5⟩ := Kd.R_slice HO170.out; subst eo5) | ((with_reducible refine gate_callee (f := 10) rfl ?_); refine goesL_ (some 6) rfl rfl Try.func10 (by kernel_rfl) rfl #[.slice Ao5 t168.length co5] rfl (by (try simp only [List.map_toArray, List.map_cons, List.map_nil]); first | done | rfl | (simp only [List.length_drop, List.length_take]; rfl)) ?_; (with_reducible refine (record_Normal.calls k _ _ t168 t171 t172 _ ?side1 ?side2 A3.out).mono ?_); (case side1 => repeat (first | exact (Kd.R_reads' HO170.out).2.2 | (with_reducible refine Kd.C_alloc ?_ _) | (with_reducible refine Kd.C_drewN ?_ _) | (with_reducible refine Kd.C_drew ?_))); (case side2 => exact (Kd.R_reads' HO170.out).2.1); rintro e w6 ⟨v173, rfl, ho0, hb⟩; refine ⟨_, rfl, ?_⟩; have n0_ := Aside0.mk (Kd.R_elder' (by (with_reducible repeat (first | apply Kd.R_alloc | apply Kd.R_drewN | apply Kd.R_drew)); exact HO170.out) (Kd.R_base ho0) hb); have n1_ := Aside0.mk (Kd.R_lower (Kd.R_new' ho0 (Kd.R_lt (by (with_reducible repeat (first | apply Kd.R_alloc | apply Kd.R_drewN | apply Kd.R_drew)); exact HO170.out))) (below_size (by repeat (first | (with_reducible first | exact HB.out | apply below_alloc | apply pw_below_drewN | apply below_drew1) | exact HB.out)))); have n2_ := Aside0.mk (below_step (by repeat (first | (with_reducible first | exact HB.out | apply below_alloc | apply pw_below_drewN | apply below_drew1) | exact HB.out)) hb); clear HO170; clear HB; have HO170 := n0_; have HO174 := n1_; have HB := n2_; clear n0_ n1_ n2_; (try clear hb); (try clear hb2); (try clear hk); (try clear hi); (try clear ho0)))
  go_ret2
  exact ⟨_, by first | rfl | (simp [errW_none, errW_some] <;> rfl) | (simp [*, errW_none, errW_some] <;> rfl), by (with_reducible repeat (first | apply Kd.R_alloc | apply Kd.R_drewN | apply Kd.R_drew)); exact Kd.R_mono HO174.out (fun _ hk => trivial), by repeat (first | (with_reducible first | exact HB.out | apply below_alloc | apply pw_below_drewN | apply below_drew1) | exact HB.out)⟩

/-! ### haulierlaw08_RecordJoins: function 5 (typed by hand) -/
theorem haulierlaw08_RecordJoins.app {P : Program} {ops : Array Oper} {rest : List Oper} {o : Oper} {a : Act} {Q : Exit → Act → World → Prop} {w0 W : World} (base : Nat) (hgd : o.guard = none) (s x : Operand) (t e : TypeId) (z : Value) (sz bytes : Nat)
    (ho : o.op = .call { callee := .builtin .append, args := #[s, x], argTypes := #[t, t] })
    (ht : P.underlying t = some (.slice e)) (hinfo : (P.info? e).map (fun i => (i.zero, i.size, i.bytes)) = some (some z, sz, bytes)) (hz : z.cells.size = sz) (hs0 : 0 < sz) (hb0 : 0 < bytes)
    (v : Value) (n : Nat) (xs ys : List Value) (A : Option Addr) (m c : Nat) (hs : a.eval s = v) (hx : a.eval x = .slice A m c)
    (HO : W.ownsRow base e sz v n xs) (hl : ys.length = m * sz) (HR : 0 < m → ∃ ad, A = some ad ∧ ∀ j u, ys[j]? = some u → W.cell? (ad.add j) = some u) (h1 : ∀ u ∈ ys, u.oneCell' = true) (HB : Below base w0 W) (hbase : base ≤ W.heap.size) (hb : (n + m) * bytes ≤ 140737488355328)
    (h : ∀ v1 w1, w1.ownsRow base e sz v1 (n + m) (xs ++ ys) → Below base w0 w1 → W.grownBy w1 v.ownBlock → wpList P ops Q rest (a.put o.dst v1) w1) :
    wpList P ops Q (o :: rest) a W := by
  obtain ⟨i0, hi, hzz⟩ := Option.map_eq_some_iff.1 hinfo
  simp only [Prod.mk.injEq] at hzz
  obtain ⟨hz0, hz1, hz2⟩ := hzz
  have hlen : n + m ≤ 140737488355328 := Nat.le_trans (Nat.le_mul_of_pos_right _ hb0) hb
  have hrun : ∃ v1 w1, (Builtin.append_ #[t, t] o.type #[v, .slice A m c]).run P W = .ok v1 w1 ∧ w1.ownsRow base e sz v1 (n + m) (xs ++ ys) ∧ W.grownBy w1 v.ownBlock := by
    rcases A with _ | ad
    · have h0 : m = 0 := by
        rcases Nat.eq_zero_or_pos m with h0 | h0
        · exact h0
        · obtain ⟨ad, h, _⟩ := HR h0
          cases h
      subst h0
      obtain rfl : ys = [] := List.eq_nil_of_length_eq_zero (by simpa using hl)
      refine ⟨v, W, ?_, by simpa using HO, World.grownBy.refl W _⟩
      rcases HO.2 with ⟨rfl, hn⟩ | ⟨g, cap, cur, rfl, _, _, hnc, _⟩
      · simp [Builtin.append_, run_underlying ht, sizeOf, typeInfo, hi, Builtin.lenOf, Builtin.firstCells]
      · simp [Builtin.append_, run_underlying ht, sizeOf, typeInfo, hi, Builtin.lenOf, Builtin.firstCells, hnc, storeCells]
    · have hcells : ∀ j u, ys[j]? = some u → W.cell? (ad.add j) = some u := by
        intro j u hu
        have hj : j < ys.length := by
          rcases Nat.lt_or_ge j ys.length with h | h
          · exact h
          · rw [List.getElem?_eq_none h] at hu; cases hu
        have hm : 0 < m := by
          rcases Nat.eq_zero_or_pos m with h0 | h0
          · subst h0; omega
          · exact h0
        obtain ⟨ad', h', hc⟩ := HR hm
        injection h' with h'
        subst h'
        exact hc j u hu
      obtain ⟨v1, w1, hr, h2, h3, _⟩ := run_append_own (P := P) W base t o.type e i0 z sz bytes ht hi hz0 hz1 hz2 hz hs0 v n xs HO ad m c ys hl hcells h1 (by simp only [maxLen]; omega) hb hbase
      exact ⟨v1, w1, hr, h2, h3⟩
  obtain ⟨v1, w1, hr, hown, hg⟩ := hrun
  refine wpList_plain hgd fun K hK => ?_
  unfold Oper.wp execOp
  simp only [ho, resolve, invoke, builtin, Sem.run_bind, Sem.run_pure, Result.andThen_ok, List.map_toArray, List.map_cons, List.map_nil, hs, hx, hr]
  exact hK _ _ (h v1 w1 hown (HB.grown hg hbase (own_base HO)) hg)
theorem haulierlaw08_RecordJoins.own_zero {w : World} {base : Nat} {e : TypeId} {sz g n cap : Nat} {xs : List Value} (h : w.ownsRow base e sz (.slice (some ⟨g, 0, none⟩) n cap) n xs) : w.ownsRow base e sz (.slice (some ⟨g, 0, none⟩) 0 cap) 0 [] := by
  rcases h.2 with ⟨h', _⟩ | ⟨g', cap', cur, h', hbg, hg, hnc, hcm, hcs, _⟩
  · cases h'
  · simp only [Value.slice.injEq, Option.some.injEq, Addr.mk.injEq, and_true, true_and] at h'
    obtain ⟨rfl, rfl⟩ := h'
    exact ⟨by simp, .inr ⟨g, cap, cur, rfl, hbg, hg, Nat.zero_le _, hcm, hcs, by simp⟩⟩
def haulierlaw08_RecordJoins.fl (l : List S47) : List Value := (l.map fun r => [Value.int .i64 r.f0, Value.int .i64 r.f1, Value.int .i64 r.f2]).flatten
theorem haulierlaw08_RecordJoins.fl_cons (r : S47) (l : List S47) : haulierlaw08_RecordJoins.fl (r :: l) = Value.int .i64 r.f0 :: Value.int .i64 r.f1 :: Value.int .i64 r.f2 :: haulierlaw08_RecordJoins.fl l := rfl
theorem haulierlaw08_RecordJoins.fl_len (l : List S47) : (haulierlaw08_RecordJoins.fl l).length = l.length * 3 := by
  induction l with
  | nil => rfl
  | cons r l ih =>
    rw [haulierlaw08_RecordJoins.fl_cons]
    simp only [List.length_cons, ih]
    omega
theorem haulierlaw08_RecordJoins.fl_one (l : List S47) : ∀ u ∈ haulierlaw08_RecordJoins.fl l, u.oneCell' = true := by
  intro u hu
  unfold haulierlaw08_RecordJoins.fl at hu
  simp only [List.mem_flatten, List.mem_map] at hu
  obtain ⟨c, ⟨r, _, rfl⟩, hc⟩ := hu
  simp only [List.mem_cons, List.not_mem_nil, or_false] at hc
  rcases hc with rfl | rfl | rfl <;> rfl
theorem haulierlaw08_RecordJoins.fl_app (a b : List S47) : haulierlaw08_RecordJoins.fl (a ++ b) = haulierlaw08_RecordJoins.fl a ++ haulierlaw08_RecordJoins.fl b := by
  unfold haulierlaw08_RecordJoins.fl
  rw [List.map_append, List.flatten_append]
theorem haulierlaw08_RecordJoins.fl_drop (l : List S47) : ∀ (j : Nat) (p : S47), l[j]? = some p → ((haulierlaw08_RecordJoins.fl l).drop (j * 3)).take 3 = [Value.int .i64 p.f0, Value.int .i64 p.f1, Value.int .i64 p.f2] := by
  induction l with
  | nil => intro j p h; simp at h
  | cons r l ih =>
    intro j p h
    cases j with
    | zero =>
      simp only [List.getElem?_cons_zero, Option.some.injEq] at h
      subst h
      rfl
    | succ j =>
      rw [List.getElem?_cons_succ] at h
      have := ih j p h
      rw [haulierlaw08_RecordJoins.fl_cons, show (j + 1) * 3 = j * 3 + 3 by omega]
      exact this
theorem haulierlaw08_RecordJoins.fl_cells {w : World} {ad : Addr} (l : List S47) : ∀ off : Nat, (∀ q p, l[q]? = some p → ∀ i u, [Value.int .i64 p.f0, Value.int .i64 p.f1, Value.int .i64 p.f2][i]? = some u → w.cell? (ad.add (off + (q * 3 + i))) = some u) → ∀ j u, (haulierlaw08_RecordJoins.fl l)[j]? = some u → w.cell? (ad.add (off + j)) = some u := by
  induction l with
  | nil => intro off _ j u h; simp [haulierlaw08_RecordJoins.fl] at h
  | cons r l ih =>
    intro off hc j u h
    rw [haulierlaw08_RecordJoins.fl_cons] at h
    have h0 := hc 0 r rfl
    match j, h with
    | 0, h => exact h0 0 u h
    | 1, h => exact h0 1 u h
    | 2, h => exact h0 2 u h
    | j + 3, h =>
      have := ih (off + 3) (fun q p hq i u hu => by
        have := hc (q + 1) p hq i u hu
        rw [show off + ((q + 1) * 3 + i) = off + 3 + (q * 3 + i) by omega] at this
        exact this) j u h
      rw [show off + (j + 3) = off + 3 + j by omega]
      exact this
theorem haulierlaw08_RecordJoins.C_fl {w : World} {A : Option Addr} {l : List S47} (h : Kd.C k47 w A l.length l) : 0 < l.length → ∃ ad, A = some ad ∧ ∀ j u, (haulierlaw08_RecordJoins.fl l)[j]? = some u → w.cell? (ad.add j) = some u := by
  intro hl
  obtain ⟨ad, e, hc⟩ := h.2.2 hl
  refine ⟨ad, e, fun j u hu => ?_⟩
  have := haulierlaw08_RecordJoins.fl_cells (w := w) (ad := ad) l 0 (fun q p hq i u hu => by
    obtain ⟨c, hl, hk, hcell⟩ := hc q p hq
    have := k47_open hk
    subst this
    have := hcell i u hu
    rw [Nat.zero_add]
    exact this) j u hu
  rwa [Nat.zero_add] at this
theorem haulierlaw08_RecordJoins.R_fl {w : World} {base : Nat} {e : TypeId} {v : Value} {l : List S47} (h : w.ownsRow base e 3 v l.length (haulierlaw08_RecordJoins.fl l)) : Kd.R k47 e w base (fun _ => True) v l :=
  ⟨fun _ _ => trivial, haulierlaw08_RecordJoins.fl l, h, ⟨haulierlaw08_RecordJoins.fl_len l, fun j p hj => by
    have := haulierlaw08_RecordJoins.fl_drop l j p hj
    show k47.M _ _ _ p (((haulierlaw08_RecordJoins.fl l).drop (j * 3)).take 3)
    rw [this]
    exact k47_mkM _ _ _ p⟩⟩
theorem haulierlaw08_RecordJoins.lit {P : Program} {ops : Array Oper} {rest : List Oper} {o : Oper} {a : Act} {Q : Exit → Act → World → Prop} {W : World} (hgd : o.guard = none) {cs : Array Value} {e : TypeId} {n : Nat}
    (hrun : (execOp a.eval o).run P W = .ok (.value (.slice (some ⟨W.heap.size, 0, none⟩) n n)) (W.alloc (.cells cs e)))
    (h : ∀ g w1, w1.heap[g]? = some (.cells cs e (0, 0)) → Below W.heap.size W w1 → wpList P ops Q rest (a.put o.dst (.slice (some ⟨g, 0, none⟩) n n)) w1) : wpList P ops Q (o :: rest) a W :=
  Kd.event_run hgd hrun (h _ _ (blk_new W _) (below_alloc (Below.refl _ _) _))
theorem haulierlaw08_RecordJoins.C3 {w : World} {g : Nat} {A0 A1 A2 : Option Addr} {c0 c1 c2 : Nat} {a b c : List S47} (h : w.heap[g]? = some (.cells #[.slice A0 a.length c0, .slice A1 b.length c1, .slice A2 c.length c2] 22 (0, 0)))
    (h0 : Kd.C k47 w A0 a.length a) (l0 : a.length ≤ c0) (h1 : Kd.C k47 w A1 b.length b) (l1 : b.length ≤ c1) (h2 : Kd.C k47 w A2 c.length c) (l2 : c.length ≤ c2) : Kd.C (Kd.slice 47 k47) w (some ⟨g, 0, none⟩) 3 [a, b, c] := by
  refine ⟨rfl, by omega, fun _ => ⟨_, rfl, fun j p hj => ?_⟩⟩
  match j, hj with
  | 0, hj =>
    obtain rfl : a = p := by simpa using hj
    refine ⟨[.slice A0 a.length c0], rfl, ⟨A0, c0, rfl, l0, h0⟩, fun i u hu => ?_⟩
    match i, hu with
    | 0, hu => simp only [List.getElem?_cons_zero, Option.some.injEq] at hu; subst hu; exact (blk_cell h 0).trans rfl
  | 1, hj =>
    obtain rfl : b = p := by simpa using hj
    refine ⟨[.slice A1 b.length c1], rfl, ⟨A1, c1, rfl, l1, h1⟩, fun i u hu => ?_⟩
    match i, hu with
    | 0, hu => simp only [List.getElem?_cons_zero, Option.some.injEq] at hu; subst hu; exact (blk_cell h 1).trans rfl
  | 2, hj =>
    obtain rfl : c = p := by simpa using hj
    refine ⟨[.slice A2 c.length c2], rfl, ⟨A2, c2, rfl, l2, h2⟩, fun i u hu => ?_⟩
    match i, hu with
    | 0, hu => simp only [List.getElem?_cons_zero, Option.some.injEq] at hu; subst hu; exact (blk_cell h 2).trans rfl
set_option maxHeartbeats 8000000 in
set_option maxRecDepth 100000 in
theorem haulierlaw08_RecordJoins.d0 (A0 : Option Addr) (c0 : Nat) (a : List S47) (A1 : Option Addr) (c1 : Nat) (b : List S47) (A2 : Option Addr) (c2 : Nat) (c : List S47) (w : World) (pa : 60 < a.length) (r : Bool) (hal : ∀ w : World, Calls Try.prog 7 #[] w fun e w' => e = .returned (.bool r) ∧ Below w.heap.size w w') : Calls Try.prog 5 #[.slice A0 a.length c0, .slice A1 b.length c1, .slice A2 c.length c2] w fun e w' => e = .returned (.bool r) ∧ Below w.heap.size w w' := by
  have qa : ((60 : Int) < (a.length : Int)) = True := eq_true (by omega)
  clear pa
  have HB := Aside0.mk (Below.refl w.heap.size w)
  go_enter Try.func5, Try.ntmps5
  go_wp2_with (first | (go_at_call 7; with_reducible refine (hal _).mono ?_; rintro e wv ⟨rfl, hb⟩; replace HB := Aside0.mk (below_step HB.out hb); clear hb))
  first | go_ret | go_ret2
  exact ⟨rfl, HB.out⟩
set_option maxHeartbeats 8000000 in
set_option maxRecDepth 100000 in
theorem haulierlaw08_RecordJoins.d1 (A0 : Option Addr) (c0 : Nat) (a : List S47) (A1 : Option Addr) (c1 : Nat) (b : List S47) (A2 : Option Addr) (c2 : Nat) (c : List S47) (w : World) (pa : ¬ 60 < a.length) (pb : 60 < b.length) (r : Bool) (hal : ∀ w : World, Calls Try.prog 7 #[] w fun e w' => e = .returned (.bool r) ∧ Below w.heap.size w w') : Calls Try.prog 5 #[.slice A0 a.length c0, .slice A1 b.length c1, .slice A2 c.length c2] w fun e w' => e = .returned (.bool r) ∧ Below w.heap.size w w' := by
  have qa : ((60 : Int) < (a.length : Int)) = False := eq_false (by omega)
  have qb : ((60 : Int) < (b.length : Int)) = True := eq_true (by omega)
  clear pa pb
  have HB := Aside0.mk (Below.refl w.heap.size w)
  go_enter Try.func5, Try.ntmps5
  go_wp2_with (first | (go_at_call 7; with_reducible refine (hal _).mono ?_; rintro e wv ⟨rfl, hb⟩; replace HB := Aside0.mk (below_step HB.out hb); clear hb))
  first | go_ret | go_ret2
  exact ⟨rfl, HB.out⟩
set_option maxHeartbeats 8000000 in
set_option maxRecDepth 100000 in
theorem haulierlaw08_RecordJoins.d2 (A0 : Option Addr) (c0 : Nat) (a : List S47) (A1 : Option Addr) (c1 : Nat) (b : List S47) (A2 : Option Addr) (c2 : Nat) (c : List S47) (w : World) (pa : ¬ 60 < a.length) (pb : ¬ 60 < b.length) (pc : 60 < c.length) (r : Bool) (hal : ∀ w : World, Calls Try.prog 7 #[] w fun e w' => e = .returned (.bool r) ∧ Below w.heap.size w w') : Calls Try.prog 5 #[.slice A0 a.length c0, .slice A1 b.length c1, .slice A2 c.length c2] w fun e w' => e = .returned (.bool r) ∧ Below w.heap.size w w' := by
  have qa : ((60 : Int) < (a.length : Int)) = False := eq_false (by omega)
  have qb : ((60 : Int) < (b.length : Int)) = False := eq_false (by omega)
  have qc : ((60 : Int) < (c.length : Int)) = True := eq_true (by omega)
  clear pa pb pc
  have HB := Aside0.mk (Below.refl w.heap.size w)
  go_enter Try.func5, Try.ntmps5
  go_wp2_with (first | (go_at_call 7; with_reducible refine (hal _).mono ?_; rintro e wv ⟨rfl, hb⟩; replace HB := Aside0.mk (below_step HB.out hb); clear hb))
  first | go_ret | go_ret2
  exact ⟨rfl, HB.out⟩
theorem haulierlaw08_RecordJoins.norm3 {w : World} {base : Nat} {v : Value} {a b c L : List S47} (hL : a ++ b ++ c = L) (h : w.ownsRow base 47 3 v (0 + a.length + b.length + c.length) ([] ++ haulierlaw08_RecordJoins.fl a ++ haulierlaw08_RecordJoins.fl b ++ haulierlaw08_RecordJoins.fl c)) : Kd.R k47 47 w base (fun _ => True) v L := by
  subst hL
  refine haulierlaw08_RecordJoins.R_fl ?_
  rw [haulierlaw08_RecordJoins.fl_app, haulierlaw08_RecordJoins.fl_app, List.length_append, List.length_append]
  simpa using h
set_option maxHeartbeats 8000000 in
set_option maxRecDepth 100000 in
theorem haulierlaw08_RecordJoins.w3 (A0 : Option Addr) (c0 : Nat) (a : List S47) (A1 : Option Addr) (c1 : Nat) (b : List S47) (A2 : Option Addr) (c2 : Nat) (c : List S47) (x y z L : List S47) (hLL : a ++ b ++ c = L) (u : Int) (w : World) (pa : ¬ 60 < a.length) (pb : ¬ 60 < b.length) (pc : ¬ 60 < c.length) (hr0 : Kd.C k47 w A0 a.length a) (hc0 : a.length ≤ c0) (hr1 : Kd.C k47 w A1 b.length b) (hc1 : b.length ≤ c1) (hr2 : Kd.C k47 w A2 c.length c) (hc2 : c.length ≤ c2) (r : Bool) (hal : ∀ w : World, Calls Try.prog 7 #[] w fun e w' => e = .returned (.bool r) ∧ Below w.heap.size w w')
    (hJ : ∀ (w : World) (g : Nat), Kd.C (Kd.slice 47 k47) w (some ⟨g, 0, none⟩) 3 [a, b, c] → Calls Try.prog 19 #[.slice (some ⟨g, 0, none⟩) 3 3] w fun e w' => ∃ v0_ : Value, e = .returned (.tuple #[v0_, .int .i64 u]) ∧ Kd.R k47 47 w' w.heap.size (fun _ => True) v0_ x ∧ Below w.heap.size w w')
    (hN : ∀ (w : World) (A : Option Addr) (cc : Nat), Kd.C k47 w A L.length L → L.length ≤ cc → Calls Try.prog 11 #[.slice A L.length cc] w fun e w' => ∃ v0_ : Value, e = .returned (.tuple #[v0_, .int .i64 u]) ∧ Kd.R k47 47 w' w.heap.size (fun _ => True) v0_ y ∧ Below w.heap.size w w')
    (hZ : ∀ (w : World), Calls Try.prog 19 #[.slice none 0 0] w fun e w' => ∃ v0_ : Value, e = .returned (.tuple #[v0_, .int .i64 0]) ∧ Kd.R k47 47 w' w.heap.size (fun _ => True) v0_ z ∧ Below w.heap.size w w') (hz : z.length = 0)
    (hS : ∀ (w : World) (A0 : Option Addr) (c0 : Nat) (A1 : Option Addr) (c1 : Nat), Kd.C k47 w A0 x.length x → x.length ≤ c0 → Kd.C k47 w A1 y.length y → y.length ≤ c1 → Calls Try.prog 12 #[.slice A0 x.length c0, .slice A1 y.length c1] w fun e w' => e = .returned (.bool true) ∧ Drawn0 w w') : Calls Try.prog 5 #[.slice A0 a.length c0, .slice A1 b.length c1, .slice A2 c.length c2] w fun e w' => e = .returned (.bool r) ∧ Below w.heap.size w w' := by
  have qa : ((60 : Int) < (a.length : Int)) = False := eq_false (by omega)
  have qb : ((60 : Int) < (b.length : Int)) = False := eq_false (by omega)
  have qc : ((60 : Int) < (c.length : Int)) = False := eq_false (by omega)
  have HLEN := Aside0.mk (And.intro pa (And.intro pb pc))
  have HLL := Aside0.mk hLL
  have HR0 := Aside0.mk hr0
  have HR1 := Aside0.mk hr1
  have HR2 := Aside0.mk hr2
  have HC0 := Aside0.mk hc0
  have HC1 := Aside0.mk hc1
  have HC2 := Aside0.mk hc2
  clear hLL pa pb pc hr0 hr1 hr2 hc0 hc1 hc2
  have HB := Aside0.mk (Below.refl w.heap.size w)
  go_enter Try.func5, Try.ntmps5
  go_wp2_with (first | ((with_reducible refine gate_dst (N := 30) rfl ?_); at_builtin; refine haulierlaw08_RecordJoins.app w.heap.size rfl _ _ 22 47 (.agg #[.int .i64 0, .int .i64 0, .int .i64 0]) 3 24 rfl Try.underlying22 info47 rfl (by decide) (by decide) _ _ _ (haulierlaw08_RecordJoins.fl a) A0 a.length c0 rfl rfl (World.ownsRow_nil _ _ _ _) (haulierlaw08_RecordJoins.fl_len a) (haulierlaw08_RecordJoins.C_fl (Kd.C_below HR0.out HB.out)) (haulierlaw08_RecordJoins.fl_one a) HB.out (below_size HB.out) (by have := HLEN.out; omega) ?_; intro v1 w1 ho hb _; have HO1 := Aside0.mk ho; replace HB := Aside0.mk hb; clear ho hb) | ((with_reducible refine gate_dst (N := 32) rfl ?_); at_builtin; refine haulierlaw08_RecordJoins.app w.heap.size rfl _ _ 22 47 (.agg #[.int .i64 0, .int .i64 0, .int .i64 0]) 3 24 rfl Try.underlying22 info47 rfl (by decide) (by decide) _ _ _ (haulierlaw08_RecordJoins.fl b) A1 b.length c1 rfl rfl HO1.out (haulierlaw08_RecordJoins.fl_len b) (haulierlaw08_RecordJoins.C_fl (Kd.C_below HR1.out HB.out)) (haulierlaw08_RecordJoins.fl_one b) HB.out (below_size HB.out) (by have := HLEN.out; omega) ?_; intro v2 w2 ho hb _; have HO2 := Aside0.mk ho; replace HB := Aside0.mk hb; clear ho hb) | ((with_reducible refine gate_dst (N := 34) rfl ?_); at_builtin; refine haulierlaw08_RecordJoins.app w.heap.size rfl _ _ 22 47 (.agg #[.int .i64 0, .int .i64 0, .int .i64 0]) 3 24 rfl Try.underlying22 info47 rfl (by decide) (by decide) _ _ _ (haulierlaw08_RecordJoins.fl c) A2 c.length c2 rfl rfl HO2.out (haulierlaw08_RecordJoins.fl_len c) (haulierlaw08_RecordJoins.C_fl (Kd.C_below HR2.out HB.out)) (haulierlaw08_RecordJoins.fl_one c) HB.out (below_size HB.out) (by have := HLEN.out; omega) ?_; intro v3 w3 ho hb _; have HO3 := Aside0.mk ho; replace HB := Aside0.mk hb; clear ho hb; have HO3 := Aside0.mk (haulierlaw08_RecordJoins.norm3 HLL.out HO3.out); obtain ⟨Al, cl, el⟩ := Kd.R_slice HO3.out; subst el; have HL := Aside0.mk (Kd.R_reads' HO3.out).2.2; have KL := Aside0.mk (Kd.R_reads' HO3.out).2.1; clear HO1 HO2 HO3) | ((with_reducible refine gate_dst (N := 39) rfl ?_); refine haulierlaw08_RecordJoins.lit ?hg (cs := #[.slice A0 a.length c0, .slice A1 b.length c1, .slice A2 c.length c2]) (e := 22) (n := 3) ?hr ?_; (case hg => rfl); (case hr => first | (go_simp; done) | (go_simp; rfl)); intro g w4 hg hb; replace HL := Aside0.mk (Kd.C_below HL.out hb); replace HB := Aside0.mk (below_step HB.out hb); have H3 := Aside0.mk (haulierlaw08_RecordJoins.C3 hg (Kd.C_below HR0.out HB.out) HC0.out (Kd.C_below HR1.out HB.out) HC1.out (Kd.C_below HR2.out HB.out) HC2.out); clear hg hb) | (go_at_call 19; with_reducible refine (hJ _ g H3.out).mono ?_; rintro e wv ⟨vx, rfl, ho, hb⟩; replace HL := Aside0.mk (Kd.C_below HL.out hb); replace HB := Aside0.mk (below_step HB.out hb); clear H3; obtain ⟨Ax, cx, ex⟩ := Kd.R_slice ho; subst ex; have HX := Aside0.mk (Kd.R_reads' ho).2.2; have KX := Aside0.mk (Kd.R_reads' ho).2.1; clear ho hb) | (go_at_call 11; with_reducible refine (hN _ Al cl HL.out KL.out).mono ?_; rintro e wv ⟨vy, rfl, ho, hb⟩; replace HX := Aside0.mk (Kd.C_below HX.out hb); replace HB := Aside0.mk (below_step HB.out hb); clear HL; obtain ⟨Ay, cy, ey⟩ := Kd.R_slice ho; subst ey; have HY := Aside0.mk (Kd.R_reads' ho).2.2; have KY := Aside0.mk (Kd.R_reads' ho).2.1; clear ho hb) | (go_at_call 19; with_reducible refine (hZ _).mono ?_; rintro e wv ⟨vz, rfl, ho, hb⟩; replace HX := Aside0.mk (Kd.C_below HX.out hb); replace HY := Aside0.mk (Kd.C_below HY.out hb); replace HB := Aside0.mk (below_step HB.out hb); obtain ⟨Az, cz, ez⟩ := Kd.R_slice ho; subst ez; have HZ := Aside0.mk (Kd.R_reads' ho).2.2; have KZ := Aside0.mk (Kd.R_reads' ho).2.1; clear ho hb) | (go_at_call 12; with_reducible refine (hS _ Ax cx Ay cy HX.out KX.out HY.out KY.out).mono ?_; rintro e wv ⟨rfl, ⟨nd, rfl⟩⟩; replace HB := Aside0.mk (pw_below_drewN HB.out nd); clear HX HY HZ) | (go_at_call 7; with_reducible refine (hal _).mono ?_; rintro e wv ⟨rfl, hb⟩; replace HB := Aside0.mk (below_step HB.out hb); clear hb))
  first | go_ret | go_ret2
  exact ⟨rfl, HB.out⟩
def haulierlaw08_RecordJoins.f (k : Nat) (l0 l1 l2 : List S47) : Option Bool := if 60 < l0.length then haulierlaw08_alive.f k else if 60 < l1.length then haulierlaw08_alive.f k else if 60 < l2.length then haulierlaw08_alive.f k else (record_Join.f k [l0, l1, l2]).bind fun x => (haulierref08_Normal.f k (l0 ++ l1 ++ l2)).bind fun y => (record_Join.f k []).bind fun z => (haulierref08_Same.f k x.1 y.1).bind fun s => if s = true ∧ x.2 = y.2 ∧ z.1.length = 0 ∧ z.2 = 0 then haulierlaw08_alive.f k else none
theorem haulierlaw08_RecordJoins.mono : ∀ l0 l1 l2 k, LeO (haulierlaw08_RecordJoins.f k l0 l1 l2) (haulierlaw08_RecordJoins.f (k + 1) l0 l1 l2) := by
  intro l0 l1 l2 k
  unfold haulierlaw08_RecordJoins.f
  exact LeO.ite (haulierlaw08_alive.mono _) (LeO.ite (haulierlaw08_alive.mono _) (LeO.ite (haulierlaw08_alive.mono _) (LeO.bind (record_Join.mono _ _) (fun _ => LeO.bind (haulierref08_Normal.mono _ _) (fun _ => LeO.bind (record_Join.mono _ _) (fun _ => LeO.bind (haulierref08_Same.mono _ _ _) (fun _ => LeO.ite (haulierlaw08_alive.mono _) (LeO.refl _))))))))
theorem haulierlaw08_RecordJoins.calls (k : Nat) (A0 : Option Addr) (c0 : Nat) (l0 : List S47) (A1 : Option Addr) (c1 : Nat) (l1 : List S47) (A2 : Option Addr) (c2 : Nat) (l2 : List S47) (r : Bool) (w : World) (hr0 : Kd.C k47 w A0 l0.length l0) (hc0 : l0.length ≤ c0) (hr1 : Kd.C k47 w A1 l1.length l1) (hc1 : l1.length ≤ c1) (hr2 : Kd.C k47 w A2 l2.length l2) (hc2 : l2.length ≤ c2) (h : haulierlaw08_RecordJoins.f k l0 l1 l2 = some r) :
    Calls Try.prog 5 #[.slice A0 l0.length c0, .slice A1 l1.length c1, .slice A2 l2.length c2] w fun e w' => e = .returned (.bool r) ∧ Below w.heap.size w w' := by
  unfold haulierlaw08_RecordJoins.f at h
  by_cases pa : 60 < l0.length
  · rw [if_pos pa] at h
    exact haulierlaw08_RecordJoins.d0 A0 c0 l0 A1 c1 l1 A2 c2 l2 w pa r (fun w => haulierlaw08_alive.calls k r w h)
  rw [if_neg pa] at h
  by_cases pb : 60 < l1.length
  · rw [if_pos pb] at h
    exact haulierlaw08_RecordJoins.d1 A0 c0 l0 A1 c1 l1 A2 c2 l2 w pa pb r (fun w => haulierlaw08_alive.calls k r w h)
  rw [if_neg pb] at h
  by_cases pc : 60 < l2.length
  · rw [if_pos pc] at h
    exact haulierlaw08_RecordJoins.d2 A0 c0 l0 A1 c1 l1 A2 c2 l2 w pa pb pc r (fun w => haulierlaw08_alive.calls k r w h)
  rw [if_neg pc] at h
  obtain ⟨⟨x1, x2⟩, hx, h⟩ := Option.bind_eq_some_iff.mp h
  obtain ⟨⟨y1, y2⟩, hy, h⟩ := Option.bind_eq_some_iff.mp h
  obtain ⟨⟨z1, z2⟩, hz, h⟩ := Option.bind_eq_some_iff.mp h
  obtain ⟨s, hs, h⟩ := Option.bind_eq_some_iff.mp h
  by_cases e : s = true ∧ x2 = y2 ∧ z1.length = 0 ∧ z2 = 0
  · obtain ⟨rfl, rfl, e1, rfl⟩ := e
    rw [if_pos ⟨rfl, rfl, e1, rfl⟩] at h
    refine haulierlaw08_RecordJoins.w3 A0 c0 l0 A1 c1 l1 A2 c2 l2 x1 y1 z1 _ rfl x2 w pa pb pc hr0 hc0 hr1 hc1 hr2 hc2 r (fun w => haulierlaw08_alive.calls k r w h) ?_ ?_ ?_ e1 ?_
    · intro w g hC
      exact record_Join.calls k _ 3 [l0, l1, l2] x1 x2 w hC (Nat.le_refl _) hx
    · intro w A cc hC hcc
      exact haulierref08_Normal.calls k A cc _ y1 x2 w hC hcc hy
    · intro w
      exact record_Join.calls k none 0 [] z1 0 w ⟨rfl, by simp, fun h => absurd h (by simp)⟩ (Nat.le_refl _) hz
    · intro w A0 c0 A1 c1 h0 h1 h2 h3
      exact haulierref08_Same.calls k A0 c0 x1 A1 c1 y1 true w h0 h1 h2 h3 hs
  · rw [if_neg e] at h
    exact absurd h (by simp)


def OK47 (x : S47) : Prop := (Lit.int .i64 x.f0).wf = true ∧ ((Lit.int .i64 x.f1).wf = true ∧ ((Lit.int .i64 x.f2).wf = true))
/-- THE ONE PURE STATEMENT of haulierlaw08_RecordJoins. -/
def haulierlaw08_RecordJoins.Pure : Prop := ∀ (l0 : List (S47)) (l1 : List (S47)) (l2 : List (S47)), l0.length ≤ maxLen → (∀ x ∈ l0, OK47 x) → l1.length ≤ maxLen → (∀ x ∈ l1, OK47 x) → l2.length ≤ maxLen → (∀ x ∈ l2, OK47 x) → ∃ k, haulierlaw08_RecordJoins.f k l0 l1 l2 = some true
end Go.Proofs.Ytmclkjmccaifcaa.MRecordJoins
