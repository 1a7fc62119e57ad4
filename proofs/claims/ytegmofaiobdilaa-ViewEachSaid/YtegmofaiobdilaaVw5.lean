/- The law ViewEach: what its walk comes to, over the contracts of what it calls. -/
import Derived.Test.YtegmofaiobdilaaVw3
namespace Go.Proofs.Ytegmofaiobdilaa.Vw5
open Go.RowKit Go.Shelf Go.Proofs.YtegmofaiobdilaaW.PrintWords Go.Proofs.YtegmofaiobdilaaW.PrintLast Go.Proofs.YtegmofaiobdilaaW.PrintMore Go.Proofs.Ytegmofaiobdilaa.Vw1 Go.Proofs.Ytegmofaiobdilaa.Vw2 Go.Proofs.Ytegmofaiobdilaa.Vw3
attribute [local go_sem] Oper.semAt_some
set_option linter.unusedVariables false
set_option linter.unusedSimpArgs false
theorem bx_below {W W' : World} {B : Nat} {t : TypeId} {v : Value} (h : Boxed W B t v) (hb : Below W.heap.size W W') : Boxed W' B t v := (hb.block _ h.lt).trans h
set_option maxHeartbeats 8000000 in
set_option maxRecDepth 100000 in
theorem ve_out (A : Option Addr) (c : Nat) (xs : List Rec) (most : Int) (w : World) (hC : Kd.C kdq w A xs.length xs) (r : Bool)
  (halive : ∀ W, Calls Try.prog 8 #[] W fun e W' => e = .returned (.bool r) ∧ Below W.heap.size W W')
  (hlight : ∀ W, Kd.C kdq W A xs.length xs → Calls Try.prog 7 #[.slice A xs.length c] W fun e W' => e = .returned (.bool false) ∧ Below W.heap.size W W') : Calls Try.prog 3 #[.slice A xs.length c, .int .i64 most] w fun e w' => e = .returned (.bool r) ∧ Below w.heap.size w w' := by
  refine (callsIn_wide (n := 4)).1 ?_
  refine callsIn_of_wp_marks Try.func3 rfl trivial ?_ rfl
  simp only [Try.ntmps3, List.size_toArray, List.length_cons, List.length_nil, Nat.reduceAdd, Nat.reduceSub, Array.replicate_succ, Array.replicate_zero, List.push_toArray, List.append_toArray, List.nil_append, List.cons_append]
  gi_wp2_with (first | (refine ⟨trivial, ?_⟩; gi_at_call 7; refine (callsIn_wide.2 (hlight _ (Kd.C_below hC (((Below.refl _ w).alloc (Nat.le_refl _) (.cells #[.int .i64 most] 3)).alloc (by simp) (.cells #[.bool false] 4))))).mono ?_; rintro e w1 ⟨rfl, hb1⟩; have B4 : Boxed w1 (w.heap.size + 1) 4 (.bool false) := (by have q := bx_below (Boxed.new (w.alloc (.cells #[.int .i64 most] 3)) 4 (.bool false)) hb1; rwa [World.size_alloc] at q); have B3 : Boxed w1 w.heap.size 3 (.int .i64 most) := bx_below ((Boxed.new w 3 (.int .i64 most)).alloc _) hb1; have HB1 := Aside0.mk (show Below w.heap.size w w1 from (((Below.refl _ w).alloc (Nat.le_refl _) (.cells #[.int .i64 most] 3)).alloc (by simp) (.cells #[.bool false] 4)).trans (hb1.mono (by simp; omega))); clear hb1; have hc4 := B4.cell; have hf4 := B4.frozen; have hc3 := B3.cell) | (refine ⟨trivial, ?_⟩; gi_at_call 8; refine (callsIn_wide.2 (halive _)).mono ?_; rintro e w2 ⟨rfl, hb2⟩; have C4 := bx_below B4 hb2; have HB2 := Aside0.mk (HB1.out.trans (hb2.mono HB1.out.size)); clear hb2 hc4 hf4 hc3; have hc4 := C4.cell; have hf4 := C4.frozen))
  have hS := World.cell?_setCell_same' w2 ⟨w.heap.size + 1, 0, none⟩ (.bool r) (by rw [hc4]; rfl)
  exact ⟨.bool r, by simp [results, Try.f3, go_sem, hS], rfl, HB2.out.setCell (p := ⟨w.heap.size + 1, 0, none⟩) (Nat.le_succ _) _⟩
structure St (b3 b4 b5 b6 b7 : Nat) (base : Nat) (most beg : Int) (Ak : Option Addr) (ck : Nat) (ks : List Int) (n : Int) (W : World) : Prop where
  B3 : Boxed W b3 3 (.int .i64 most)
  B4 : Boxed W b4 4 (.bool false)
  B5 : Boxed W b5 25 (.slice Ak ks.length ck)
  B6 : Boxed W b6 3 (.int .i64 beg)
  B7 : Boxed W b7 3 (.int .i64 n)
  KR : Kd.R (Kd.int .i64) 3 W base (fun k => some k = (Value.slice Ak ks.length ck).ownBlock) (.slice Ak ks.length ck) ks
theorem St.kept {b3 b4 b5 b6 b7 base : Nat} {most beg : Int} {Ak : Option Addr} {ck : Nat} {ks : List Int} {n : Int} {W W' : World} {row : Option Nat} (h : St b3 b4 b5 b6 b7 base most beg Ak ck ks n W) (hg : W.grownBy W' row) (hrow : ∀ k, row = some k → ∃ o : Obj, W.heap[k]? = some o ∧ o.isCells = false) : St b3 b4 b5 b6 b7 base most beg Ak ck ks n W' := by
  have nr : ∀ k o, W.heap[k]? = some o → o.isCells = true → some k ≠ row := by
    intro k o hk ho e
    obtain ⟨o', ho', hc⟩ := hrow k e.symm
    rw [hk] at ho'
    cases ho'
    rw [ho] at hc
    cases hc
  refine ⟨h.B3.kept hg (nr _ _ h.B3 rfl), h.B4.kept hg (nr _ _ h.B4 rfl), h.B5.kept hg (nr _ _ h.B5 rfl), h.B6.kept hg (nr _ _ h.B6 rfl), h.B7.kept hg (nr _ _ h.B7 rfl), Kd.R_step h.KR (fun k hk hlt => ?_)⟩
  obtain ⟨cells, hc⟩ := Kd.R_typed h.KR k hk.symm
  exact hg.block k hlt (nr k _ hc rfl)
theorem St.set {b3 b4 b5 b6 b7 base : Nat} {most beg : Int} {Ak : Option Addr} {ck : Nat} {ks : List Int} {n : Int} {W : World} (m : Int) (h : St b3 b4 b5 b6 b7 base most beg Ak ck ks n W) (h3 : b3 ≠ b7) (h4 : b4 ≠ b7) (h5 : b5 ≠ b7) (h6 : b6 ≠ b7) (hk : some b7 ≠ (Value.slice Ak ks.length ck).ownBlock) : St b3 b4 b5 b6 b7 base most beg Ak ck ks m (W.setCell ⟨b7, 0, none⟩ (.int .i64 m)) := by
  have ot : ∀ {b t v}, Boxed W b t v → b ≠ b7 → Boxed (W.setCell ⟨b7, 0, none⟩ (.int .i64 m)) b t v := fun hb hn => (Below.heap_setCell W ⟨b7, 0, none⟩ _ _ hn).trans hb
  exact ⟨ot h.B3 h3, ot h.B4 h4, ot h.B5 h5, ot h.B6 h6, h.B7.set _, Kd.R_far h.KR (fun k hk' e => hk (by rw [← hk', e])) _⟩
theorem fn_nil (b : Nat) (W : World) : (binOp BinOp.eql 29 (.func (.func 26) #[] #[.pointer (some ⟨b, 0, none⟩)]) .nilFunc).run Try.prog W = .ok (.bool false) W := by
  first | rfl | kernel_rfl | (simp [binOp, go_sem, Try.underlying29]; done)
theorem h_t1 {q n : Nat} (h : q < n) : ((n : Int) ≤ (q : Int)) = False := eq_false (by omega)
theorem h_t0 {q n : Nat} (h : q < n) : ((q : Int) < (n : Int)) = True := eq_true (by omega)
theorem h_lt {q n : Nat} (h : q < n) : (q : Int) < n := by omega
theorem h_p0 (q : Nat) : (0 ≤ (q : Int)) = True := eq_true (by omega)
theorem h_n0 (q : Nat) : 0 ≤ (q : Int) := by omega
theorem h_w1 {q n : Nat} {b : Int} (h : q < n) (hn : n ≤ 100000) (h0 : 0 ≤ b) (h1 : b ≤ 100000) : wrap64 (b + (q : Int)) = b + (q : Int) := by unfold wrap64; omega
theorem h_w2 {q n : Nat} (h : q < n) (hn : n ≤ 100000) : wrap64 ((q : Int) + 1) = (q : Int) + 1 := by unfold wrap64; omega
theorem kr_set {n₀ b : Nat} {W : World} {t : TypeId} {u : Value} (hb : Boxed W b t u) (ht : t ≠ 50 ∧ t ≠ 22) (hn : n₀ ≤ b) (v : Value) : Kr n₀ W (W.setCell ⟨b, 0, none⟩ v) :=
  ⟨(Below.refl n₀ W).setCell (p := ⟨b, 0, none⟩) hn _, fun k c t' ht' hk => (Below.heap_setCell W ⟨b, 0, none⟩ v k (fun e => by
    subst e
    rw [show W.heap[k]? = _ from hb] at hk
    cases hk
    rcases ht' with h | h
    · exact ht.1 h
    · exact ht.2 h)).trans hk⟩
set_option maxHeartbeats 8000000 in
set_option maxRecDepth 100000 in
theorem ve_yes (A : Option Addr) (c : Nat) (xs : List Rec) (most : Int) (w : World) (hC : Kd.C kdq w A xs.length xs) (r : Bool)
  (halive : ∀ W, Calls Try.prog 8 #[] W fun e W' => e = .returned (.bool r) ∧ Below W.heap.size W W')
  (hlight : ∀ W, Kd.C kdq W A xs.length xs → Calls Try.prog 7 #[.slice A xs.length c] W fun e W' => e = .returned (.bool true) ∧ Below W.heap.size W W')
  (hR : ∀ W, Kd.C kdq W A xs.length xs → Calls Try.prog 9 #[.slice A xs.length c] W fun e W' => e = .returned (.bool true) ∧ Below W.heap.size W W')
  (beg : Int) (hbeg : ∀ W, Kd.C kdq W A xs.length xs → Calls Try.prog 11 #[.slice A xs.length c] W fun e W' => e = .returned (.int .i64 beg) ∧ Below W.heap.size W W') (hbb : 0 ≤ beg ∧ beg ≤ 100000)
  (ks : List Int) (hkinds : ∀ W, Kd.C kdq W A xs.length xs → Calls Try.prog 10 #[.slice A xs.length c] W fun e W' => ∃ v0_ : Value, e = .returned v0_ ∧ Kd.R (Kd.int .i64) 3 W' W.heap.size (fun _ => True) v0_ ks ∧ Below W.heap.size W W')
  (i1 : Int) (hchk : ∀ W, Kd.C kdq W A xs.length xs → Calls Try.prog 27 #[.slice A xs.length c] W fun e W' => e = .returned (.tuple #[.int .i64 i1, .int .i64 0]) ∧ Below W.heap.size W W')
  (hk : ∀ r ∈ xs, 0 ≤ r.1 ∧ r.1 < 4 ∧ 0 ≤ r.2.1 ∧ r.2.1 < r.2.2 ∧ r.2.2 ≤ 40320) (hm : ks.length ≤ 100000) (hz : mins xs = (List.range ks.length).map fun (j : Nat) => (beg + (j : Int), rd ks (j : Int))) : Calls Try.prog 3 #[.slice A xs.length c, .int .i64 most] w fun e w' => e = .returned (.bool r) ∧ Below w.heap.size w w' := by
  refine (callsIn_wide (n := 4)).1 ?_
  refine callsIn_of_wp_marks Try.func3 rfl trivial ?_ rfl
  simp only [Try.ntmps3, List.size_toArray, List.length_cons, List.length_nil, Nat.reduceAdd, Nat.reduceSub, Array.replicate_succ, Array.replicate_zero, List.push_toArray, List.append_toArray, List.nil_append, List.cons_append]
  have hfn := fn_nil
  gi_wp2_with (first | (refine ⟨trivial, ?_⟩; gi_at_call 7; refine (callsIn_wide.2 (hlight _ (Kd.C_below hC (((Below.refl _ w).alloc (Nat.le_refl _) (.cells #[.int .i64 most] 3)).alloc (by simp) (.cells #[.bool false] 4))))).mono ?_; rintro e w1 ⟨rfl, hb1⟩; have B4 : Boxed w1 (w.heap.size + 1) 4 (.bool false) := (by have q := bx_below (Boxed.new (w.alloc (.cells #[.int .i64 most] 3)) 4 (.bool false)) hb1; rwa [World.size_alloc] at q); have B3 : Boxed w1 w.heap.size 3 (.int .i64 most) := bx_below ((Boxed.new w 3 (.int .i64 most)).alloc _) hb1; have HB1 := Aside0.mk (show Below w.heap.size w w1 from (((Below.refl _ w).alloc (Nat.le_refl _) (.cells #[.int .i64 most] 3)).alloc (by simp) (.cells #[.bool false] 4)).trans (hb1.mono (by simp; omega))); clear hb1; have hc4 := B4.cell; have hf4 := B4.frozen; have hc3 := B3.cell) | (refine ⟨trivial, ?_⟩; gi_at_call 9; refine (callsIn_wide.2 (hR _ (Kd.C_below hC ((HB1.out).alloc HB1.out.size (.cells #[.slice none 0 0] 25))))).mono ?_; rintro e w2 ⟨rfl, hb2⟩; have C3 := bx_below (B3.alloc _) hb2; have C4 := bx_below (B4.alloc _) hb2; have C5 : Boxed w2 w1.heap.size 25 (.slice none 0 0) := bx_below (Boxed.new w1 25 (.slice none 0 0)) hb2; have HB2 := Aside0.mk (show Below w.heap.size w w2 from ((HB1.out).alloc HB1.out.size (.cells #[.slice none 0 0] 25)).trans (hb2.mono (by have := HB1.out.size; simp; omega))); have HS2 := Aside0.mk (show w1.heap.size < w2.heap.size from C5.lt); have HS1 := Aside0.mk B4.lt; clear hb2 hc4 hf4 hc3; have hc5 := C5.cell; have hf5 := C5.frozen) | (refine ⟨trivial, ?_⟩; gi_at_call 10; refine (callsIn_wide.2 (hkinds _ (Kd.C_below hC HB2.out))).mono ?_; rintro e w3 ⟨v, rfl, hv, hb3⟩; obtain ⟨Ak, ck, rfl⟩ := Kd.R_slice hv; have D3 := bx_below C3 hb3; have D4 := bx_below C4 hb3; have D5 := bx_below C5 hb3; have HKV := Aside0.mk hv; have HB3 := Aside0.mk (HB2.out.trans (hb3.mono HB2.out.size)); have HS3 := Aside0.mk hb3.size; clear hb3 hc5 hf5 hv; have hc5 := D5.cell; have hf5 := D5.frozen) | (refine ⟨trivial, ?_⟩; gi_at_call 11; refine (callsIn_wide.2 (hbeg _ (Kd.C_below hC (HB3.out.setCell (p := ⟨w1.heap.size, 0, none⟩) HB1.out.size (.slice Ak ks.length ck))))).mono ?_; rintro e w4 ⟨rfl, hb4⟩; have E3 := bx_below (show Boxed (w3.setCell ⟨w1.heap.size, 0, none⟩ (.slice Ak ks.length ck)) w.heap.size 3 (.int .i64 most) from (Below.heap_setCell w3 ⟨w1.heap.size, 0, none⟩ _ _ (by have := HS1.out; simp; omega)).trans D3) hb4; have E4 := bx_below (show Boxed (w3.setCell ⟨w1.heap.size, 0, none⟩ (.slice Ak ks.length ck)) (w.heap.size + 1) 4 (.bool false) from (Below.heap_setCell w3 ⟨w1.heap.size, 0, none⟩ _ _ (by have := HS1.out; simp; omega)).trans D4) hb4; have E5 := bx_below (D5.set (.slice Ak ks.length ck)) hb4; have HB4 := Aside0.mk ((HB3.out.setCell (p := ⟨w1.heap.size, 0, none⟩) HB1.out.size (.slice Ak ks.length ck)).trans (hb4.mono (HB3.out.setCell (p := ⟨w1.heap.size, 0, none⟩) HB1.out.size (.slice Ak ks.length ck)).size)); have HK4 := Aside0.mk (Kd.R_below (Kd.R_far (Kd.R_tight rfl HKV.out) (p := ⟨w1.heap.size, 0, none⟩) (fun k hk' e => by have q := Kd.R_base HKV.out k hk'.symm; have := HS2.out; simp at e; omega) (.slice Ak ks.length ck)) hb4); have HG4 := Aside0.mk (Kd.R_lt HK4.out); clear hb4 hc5 hf5) | (refine ⟨trivial, ?_⟩; gi_at_call 12; refine (each_in _ A xs.length c _).mono ?_; rintro e w5 ⟨rfl, hw5⟩))
  have hw4 : Below w4.heap.size w4 (((w4.alloc (.cells #[.int .i64 beg] 3)).alloc (.cells #[.int .i64 0] 3)).alloc (.cells #[.slice A xs.length c] 22)) := ((((Below.refl _ w4).alloc (Nat.le_refl _) _).alloc (by simp) _).alloc (by simp; omega) _)
  have F6 := ((Boxed.new w4 3 (.int .i64 beg)).alloc (.cells #[.int .i64 0] 3)).alloc (.cells #[.slice A xs.length c] 22)
  have F7 := (Boxed.new (w4.alloc (.cells #[.int .i64 beg] 3)) 3 (.int .i64 0)).alloc (.cells #[.slice A xs.length c] 22)
  have F8 := Boxed.new ((w4.alloc (.cells #[.int .i64 beg] 3)).alloc (.cells #[.int .i64 0] 3)) 22 (.slice A xs.length c)
  simp only [World.size_alloc] at F7 F8
  have S0 : St w.heap.size (w.heap.size + 1) w1.heap.size w4.heap.size (w4.heap.size + 1) w2.heap.size most beg Ak ck ks ((0 : Nat) : Int) (((w4.alloc (.cells #[.int .i64 beg] 3)).alloc (.cells #[.int .i64 0] 3)).alloc (.cells #[.slice A xs.length c] 22)) := ⟨bx_below E3 hw4, bx_below E4 hw4, bx_below E5 hw4, F6, F7, Kd.R_below HK4.out hw4⟩
  have HB5 := Aside0.mk (HB4.out.trans (hw4.mono HB4.out.size))
  have l3 := E3.lt
  have l4 := E4.lt
  have l5 := E5.lt
  have lg : some (w4.heap.size + 1) ≠ (Value.slice Ak ks.length ck).ownBlock := fun e => by
    have := HG4.out _ e.symm
    omega
  have hwb := HB4.out.size
  have h51 := HB1.out.size
  generalize ((w4.alloc (.cells #[.int .i64 beg] 3)).alloc (.cells #[.int .i64 0] 3)).alloc (.cells #[.slice A xs.length c] 22) = W2 at S0 HB5 F8 ⊢
  clear hw4 F6 F7 E3 E4 E5 HK4 HG4 HB4 HB3 HS3 HKV hfn
  obtain ⟨b7, hb7⟩ : ∃ b, b = w4.heap.size + 1 := ⟨_, rfl⟩
  obtain ⟨b6, hb6⟩ : ∃ b, b = w4.heap.size := ⟨_, rfl⟩
  obtain ⟨b5, hb5⟩ : ∃ b, b = w1.heap.size := ⟨_, rfl⟩
  obtain ⟨b4, hb4⟩ : ∃ b, b = w.heap.size + 1 := ⟨_, rfl⟩
  obtain ⟨b3, hb3⟩ : ∃ b, b = w.heap.size := ⟨_, rfl⟩
  have n3 : b3 ≠ b7 := by omega
  have n4 : b4 ≠ b7 := by omega
  have n5 : b5 ≠ b7 := by omega
  have n6 : b6 ≠ b7 := by omega
  have hle4 : w.heap.size ≤ b4 := by omega
  have hle7 : w.heap.size ≤ b7 := by omega
  rw [← hb7] at S0 F8 lg ⊢
  rw [← hb6, ← hb5, ← hb4, ← hb3] at S0 ⊢
  obtain ⟨base, hbase⟩ : ∃ b, b = w2.heap.size := ⟨_, rfl⟩
  rw [← hbase] at S0
  have hlen : (mins xs).length = ks.length := by rw [hz]; simp
  have hW2 := HB5.out.size
  clear hb7 hb6 hb5 hb4 hb3 hbase l3 l4 l5 hwb h51 HS1 HS2 HB1 HB2
  refine wpIn_rangeFunc_ownG rfl (by omega) (gf := 26) (lb := #[.pointer (some ⟨b7 + 1, 0, none⟩)]) rfl trivial (enters_of Try.func26 (by kernel_rfl) rfl)
    (each_stops _ (by omega) (b7 + 1) w A c xs hk hC i1 hchk W2 F8 HB5.out) Kr.trans (kr_b (by omega)) (Below.refl _ _) (fun _ => rfl)
    (fun pre W => St b3 b4 b5 b6 b7 base most beg Ak ck ks (pre.length : Int) W ∧ Below w.heap.size w W)
    (fun cd pre W => (cd = .ret ∧ ∃ ini last, pre = ini ++ [last] ∧ ini.length < ks.length ∧ ¬ (last.1.1 = beg + (ini.length : Int) ∧ last.1.2 = rd ks (ini.length : Int))) ∨ ((cd = .exit 0 ∧ (pre.length : Int) = most ∧ St b3 b4 b5 b6 b7 base most beg Ak ck ks (pre.length : Int) W) ∧ Below w.heap.size w W))
    (OwnFrom.and (Own.from (show Own (fun (pre : List MK) W => St b3 b4 b5 b6 b7 base most beg Ak ck ks (pre.length : Int) W) from fun s X Y row hs hg hr => St.kept hs hg hr) _) (ownFrom_below (Nat.le_refl _) (by omega)))
    (fun cd s X Y row hs hg hr => hs.elim .inl (fun h => .inr ⟨⟨h.1.1, h.1.2.1, St.kept h.1.2.2 hg (fun k e => (hr k e).2)⟩, (ownFrom_below (β := Unit) (Nat.le_refl _) (by omega)) () X Y row h.2 hg hr⟩))
    ⟨S0, HB5.out⟩
    (fun x => { tmps := #[Value.slice A xs.length c, Value.int .i64 most, undef, Value.pointer (some ⟨b3, 0, none⟩), Value.pointer (some ⟨b4, 0, none⟩), Value.pointer (some ⟨b5, 0, none⟩), Value.pointer (some ⟨b6, 0, none⟩), Value.pointer (some ⟨b7, 0, none⟩), Value.func (Fn.func 26) #[] #[Value.pointer (some ⟨b7 + 1, 0, none⟩)], Value.int .i64 x.1.1, Value.int .i64 x.1.2, Value.slice A xs.length c, Value.bool true, Value.bool false, undef, Value.slice A xs.length c, Value.bool true, Value.slice A xs.length c, Value.slice Ak ks.length ck, Value.slice A xs.length c, Value.int .i64 beg, Value.slice A xs.length c, Value.func (Fn.func 26) #[] #[Value.pointer (some ⟨b7 + 1, 0, none⟩)], Value.func (Fn.func 26) #[] #[Value.pointer (some ⟨b7 + 1, 0, none⟩)], Value.bool false, Value.func (Fn.func 26) #[] #[Value.pointer (some ⟨b7 + 1, 0, none⟩)], Value.int .i64 x.1.1, Value.int .i64 x.1.2, undef, undef, undef, undef, undef, undef, undef, undef, undef, undef, undef, undef, undef, undef, undef, undef, undef, undef, undef, undef, undef, undef, undef, undef, undef, undef, undef, undef, undef, undef, undef, undef, undef, undef, undef, undef], defers := [] }) ?assign ?body ?done ?stop
  case assign =>
    intro l x W K hK
    gi_wp2
    exact hK
  case body =>
    rintro l pre ⟨⟨m, k⟩, hk0, hk4⟩ W ⟨hS, hB⟩ hlt
    rw [hlen] at hlt
    have hc3 := hS.B3.cell
    have hc4 := hS.B4.cell
    have hf4 := hS.B4.frozen
    have hc5 := hS.B5.cell
    have hc6 := hS.B6.cell
    have hc7 := hS.B7.cell
    have hf7 := hS.B7.frozen
    obtain ⟨q, hq⟩ : ∃ q, q = pre.length := ⟨_, rfl⟩
    rw [← hq] at hlt hc7
    obtain ⟨ad, rfl, hkc⟩ := Kd.at_int (Kd.R_reads' hS.KR).2.2 (q : Int) (h_n0 q) (h_lt hlt)
    rw [Int.toNat_natCast] at hkc
    have t1 := h_t1 hlt
    have t0 := h_t0 hlt
    have w1_ := h_w1 hlt hm hbb.1 hbb.2
    have w2_ := h_w2 hlt hm
    have p0 := h_p0 q
    obtain ⟨z, hz1⟩ : ∃ z, rd ks (q : Int) = z := ⟨_, rfl⟩
    rw [hz1] at hkc
    have HS := Aside0.mk hS
    have HQ := Aside0.mk hq
    have HZ := Aside0.mk hz1
    have HLT := Aside0.mk hlt
    clear hS hq hz1 hlt hz hm hbb hlen hlight hR hbeg hkinds hchk hk halive hC
    by_cases hm1 : m = beg + (q : Int)
    · have e1 : (m == beg + (q : Int)) = true := beq_iff_eq.mpr hm1
      have e2 : (m != beg + (q : Int)) = false := by rw [bne, e1]; rfl
      by_cases hk1 : k = z
      · have f1 : (k == z) = true := beq_iff_eq.mpr hk1
        have f2 : (k != z) = false := by rw [bne, f1]; rfl
        have HM := Aside0.mk hm1
        have HK1 := Aside0.mk hk1
        clear hm1 hk1
        by_cases hmo : (q : Int) + 1 = most
        · have g1 : ((q : Int) + 1 == most) = true := beq_iff_eq.mpr hmo
          have HMO := Aside0.mk hmo
          clear hmo
          gi_wp2
          have HB_ := hB.setCell (p := ⟨b7, 0, none⟩) hle7 (Value.int .i64 ((q : Int) + 1))
          have HS2_ := HS.out.set ((q : Int) + 1) n3 n4 n5 n6 lg
          have hl1 : (((pre ++ [(⟨(m, k), hk0, hk4⟩ : MK)]).length : Nat) : Int) = (q : Int) + 1 := by rw [List.length_append, ← HQ.out]; simp
          refine ⟨(KeepsOthers.setCell _ _ _).from _, .inr ⟨⟨rfl, by rw [hl1]; exact HMO.out, by rw [hl1]; exact HS2_⟩, HB_⟩⟩
        · have g1 : ((q : Int) + 1 == most) = false := beq_eq_false_iff_ne.mpr hmo
          clear hmo
          gi_wp2
          have HB_ := hB.setCell (p := ⟨b7, 0, none⟩) hle7 (Value.int .i64 ((q : Int) + 1))
          have HS2_ := HS.out.set ((q : Int) + 1) n3 n4 n5 n6 lg
          have hl1 : (((pre ++ [(⟨(m, k), hk0, hk4⟩ : MK)]).length : Nat) : Int) = (q : Int) + 1 := by rw [List.length_append, ← HQ.out]; simp
          refine ⟨(KeepsOthers.setCell _ _ _).from _, kr_set HS.out.B7 (by decide) hle7 _, ⟨by rw [hl1]; exact HS2_, HB_⟩⟩
      · have f1 : (k == z) = false := beq_eq_false_iff_ne.mpr hk1
        have f2 : (k != z) = true := by rw [bne, f1]; rfl
        have HM := Aside0.mk hm1
        have HK1 := Aside0.mk hk1
        clear hm1 hk1
        gi_wp2
        exact ⟨(KeepsOthers.setCell _ _ _).from _, .inl ⟨rfl, pre, _, rfl, HQ.out ▸ HLT.out, fun h => HK1.out (by rw [← HZ.out, HQ.out]; exact h.2)⟩⟩
    · have e1 : (m == beg + (q : Int)) = false := beq_eq_false_iff_ne.mpr hm1
      have e2 : (m != beg + (q : Int)) = true := by rw [bne, e1]; rfl
      have HM := Aside0.mk hm1
      clear hm1
      gi_wp2
      exact ⟨(KeepsOthers.setCell _ _ _).from _, .inl ⟨rfl, pre, _, rfl, HQ.out ▸ HLT.out, fun h => HM.out (by rw [HQ.out]; exact h.1)⟩⟩
  case done =>
    rintro D ys W hD hys ⟨hS, hB⟩ hK
    have hyl : ys.length = ks.length := by rw [← hlen, ← hys, List.length_map]
    rw [hyl] at hS
    have g1 : ((ks.length : Int) == (ks.length : Int)) = true := beq_self_eq_true _
    have HS := Aside0.mk hS
    have HB := Aside0.mk hB
    have HK := Aside0.mk hK
    have HDD := Aside0.mk hD
    have hc3 := hS.B3.cell
    have hc4 := hS.B4.cell
    have hf4 := hS.B4.frozen
    have hc5 := hS.B5.cell
    have hc7 := hS.B7.cell
    clear hS hB hK hD hlight hR hbeg hkinds hchk hk hC hm hbb hlen
    clear hz hys hyl
    gi_wp2_with (refine ⟨trivial, ?_⟩; gi_at_call 8; refine (callsIn_wide.2 (halive _)).mono ?_; rintro e W3 ⟨rfl, hb3⟩; have C4 := bx_below HS.out.B4 hb3; have HK3 := Aside0.mk ((hb3.block D (Array.getElem?_eq_some_iff.1 HK.out).1).trans HK.out); have HB3 := Aside0.mk (HB.out.trans (hb3.mono HB.out.size)); clear hb3 hc4 hf4 hc3 hc5 hc7; have hc4 := C4.cell; have hf4 := C4.frozen)
    have hK' := (KeepsOthers.setCell W3 ⟨b4, 0, none⟩ (.bool r)).same D _ HK3.out rfl
    have hc6_ := cell_kept (World.cell?_setCell_same' W3 ⟨b4, 0, none⟩ (.bool r) (by rw [hc4]; rfl)) (grownBy_putObj' _ D (.deferred none)) (fun k e => by cases e; exact ⟨_, hK', rfl⟩)
    refine ⟨by simp, .inl ⟨_, _, rfl, run_takeDeferred hK', ?_⟩⟩
    exact ⟨.bool r, by simp [results, Try.f3, go_sem, hc6_], rfl, (HB3.out.setCell (p := ⟨b4, 0, none⟩) hle4 _).trans (belowK_b (w := w) (Nat.le_refl _) _ D _ _ (Nat.le_trans hW2 HDD.out) hK' rfl rfl)⟩
  case stop =>
    rintro D cd pre W hD hSp hIx hK
    rcases hIx with ⟨rfl, ini, last, rfl, hil, hne⟩ | ⟨⟨rfl, hmo, hS⟩, hB⟩
    · exfalso
      obtain ⟨t, ht⟩ := hSp
      have e1 : (mins xs)[ini.length]? = some last.1 := by rw [← ht]; simp
      have e2 : (mins xs)[ini.length]? = some (beg + (ini.length : Int), rd ks (ini.length : Int)) := by rw [hz]; simp [hil]
      rw [e1] at e2
      injection e2 with e2
      exact hne (by rw [e2]; exact ⟨rfl, rfl⟩)
    · rw [hmo] at hS
      have g2 : (most == most) = true := beq_self_eq_true _
      have HS := Aside0.mk hS
      have HB := Aside0.mk hB
      have HK := Aside0.mk hK
      have HDD := Aside0.mk hD
      have hc3 := hS.B3.cell
      have hc4 := hS.B4.cell
      have hf4 := hS.B4.frozen
      have hc5 := hS.B5.cell
      have hc7 := hS.B7.cell
      clear hS hB hK hD hlight hR hbeg hkinds hchk hk hC hm hbb hlen
      clear hz hSp hmo
      by_cases hq : most = (ks.length : Int)
      · have g1 : (most == (ks.length : Int)) = true := beq_iff_eq.mpr hq
        clear hq
        gi_wp2_with (refine ⟨trivial, ?_⟩; gi_at_call 8; refine (callsIn_wide.2 (halive _)).mono ?_; rintro e W3 ⟨rfl, hb3⟩; have C4 := bx_below HS.out.B4 hb3; have HK3 := Aside0.mk ((hb3.block D (Array.getElem?_eq_some_iff.1 HK.out).1).trans HK.out); have HB3 := Aside0.mk (HB.out.trans (hb3.mono HB.out.size)); clear hb3 hc4 hf4 hc3 hc5 hc7; have hc4 := C4.cell; have hf4 := C4.frozen)
        have hK' := (KeepsOthers.setCell W3 ⟨b4, 0, none⟩ (.bool r)).same D _ HK3.out rfl
        have hc6_ := cell_kept (World.cell?_setCell_same' W3 ⟨b4, 0, none⟩ (.bool r) (by rw [hc4]; rfl)) (grownBy_putObj' _ D (.deferred none)) (fun k e => by cases e; exact ⟨_, hK', rfl⟩)
        refine ⟨by simp, .inl ⟨_, _, rfl, run_takeDeferred hK', ?_⟩⟩
        exact ⟨.bool r, by simp [results, Try.f3, go_sem, hc6_], rfl, (HB3.out.setCell (p := ⟨b4, 0, none⟩) hle4 _).trans (belowK_b (w := w) (Nat.le_refl _) _ D _ _ (Nat.le_trans hW2 HDD.out) hK' rfl rfl)⟩
      · have g1 : (most == (ks.length : Int)) = false := beq_eq_false_iff_ne.mpr hq
        clear hq
        gi_wp2_with (refine ⟨trivial, ?_⟩; gi_at_call 8; refine (callsIn_wide.2 (halive _)).mono ?_; rintro e W3 ⟨rfl, hb3⟩; have C4 := bx_below HS.out.B4 hb3; have HK3 := Aside0.mk ((hb3.block D (Array.getElem?_eq_some_iff.1 HK.out).1).trans HK.out); have HB3 := Aside0.mk (HB.out.trans (hb3.mono HB.out.size)); clear hb3 hc4 hf4 hc3 hc5 hc7; have hc4 := C4.cell; have hf4 := C4.frozen)
        have hK' := (KeepsOthers.setCell W3 ⟨b4, 0, none⟩ (.bool r)).same D _ HK3.out rfl
        have hc6_ := cell_kept (World.cell?_setCell_same' W3 ⟨b4, 0, none⟩ (.bool r) (by rw [hc4]; rfl)) (grownBy_putObj' _ D (.deferred none)) (fun k e => by cases e; exact ⟨_, hK', rfl⟩)
        refine ⟨by simp, .inl ⟨_, _, rfl, run_takeDeferred hK', ?_⟩⟩
        exact ⟨.bool r, by simp [results, Try.f3, go_sem, hc6_], rfl, (HB3.out.setCell (p := ⟨b4, 0, none⟩) hle4 _).trans (belowK_b (w := w) (Nat.le_refl _) _ D _ _ (Nat.le_trans hW2 HDD.out) hK' rfl rfl)⟩
set_option maxRecDepth 100000 in
set_option maxHeartbeats 4000000 in
theorem each1_no (n : Nat) (hn : 1 ≤ n) (l Bs : Nat) (w0 : World) (A : Option Addr) (c : Nat) (xs : List Rec) (hC : Kd.C kdq w0 A xs.length xs) (i1 e1 : Int) (he : ¬ e1 = 0)
    (hchk : ∀ W, Kd.C kdq W A xs.length xs → Calls Try.prog 27 #[.slice A xs.length c] W fun e W' => e = .returned (.tuple #[.int .i64 i1, .int .i64 e1]) ∧ Below W.heap.size W W')
    (J : List MK → World → Prop) (W : World) (hJ : AbidesFrom W.heap.size J) (hW0 : Below w0.heap.size w0 W) (hBs : W.heap[Bs]? = some (.cells #[.slice A xs.length c] 22 (0, 0))) (h0 : J [] W) :
    CallsIn Fence.wide n Try.prog 26 #[.func (.yield l) #[] #[], .pointer (some ⟨Bs, 0, none⟩)] W fun e W' => (∃ v, e = .returned v) ∧ J [] W' := by
  have hb0 : W.cell? ⟨Bs, 0, none⟩ = some (.slice A xs.length c) := by simp [World.cell?, hBs]
  have HCH := Aside0.mk (hchk W (Kd.C_below hC hW0))
  have p1 : (e1 = 0) = False := eq_false he
  have p2 : (e1 == 0) = false := beq_eq_false_iff_ne.mpr he
  have p3 : (e1 != 0) = true := by rw [bne, p2]; rfl
  clear he
  refine callsIn_of_wp Try.func26 rfl trivial ?_ rfl
  simp only [Try.ntmps26, List.size_toArray, List.length_cons, List.length_nil, Nat.reduceAdd, Nat.reduceSub, Array.replicate_succ, Array.replicate_zero, List.push_toArray, List.append_toArray, List.nil_append, List.cons_append]
  gi_wp2_with (refine ⟨trivial, ?_⟩; gi_at_call 27; refine (callsIn_wide.2 HCH.out).mono ?_; rintro e W1 ⟨rfl, hb1⟩; have HB1 := Aside0.mk hb1; clear hb1)
  refine bodyPost_ret (results_none rfl _ _ _) rfl ?_
  exact ⟨⟨_, rfl⟩, hJ _ _ _ none h0 (grown_of_below HB1.out) (by simp)⟩
theorem each_no (n : Nat) (hn : 1 ≤ n) (Bs : Nat) (w0 : World) (A : Option Addr) (c : Nat) (xs : List Rec) (hC : Kd.C kdq w0 A xs.length xs) (i1 e1 : Int) (he : ¬ e1 = 0)
    (hchk : ∀ W, Kd.C kdq W A xs.length xs → Calls Try.prog 27 #[.slice A xs.length c] W fun e W' => e = .returned (.tuple #[.int .i64 i1, .int .i64 e1]) ∧ Below W.heap.size W W')
    (w : World) (hBs : w.heap[Bs]? = some (.cells #[.slice A xs.length c] 22 (0, 0))) (hw0 : Below w0.heap.size w0 w) :
    SeqStopsK Fence.wide n Try.prog 26 #[.pointer (some ⟨Bs, 0, none⟩)] (fun x : MK => #[Value.int .i64 x.1.1, Value.int .i64 x.1.2]) (Kr w0.heap.size) (fun ys => ys = []) (fun _ => False) 0 w :=
  fun l J Jx W hW hJ hJx hY h0 => (each1_no n hn l Bs w0 A c xs hC i1 e1 he hchk J W hJ (hw0.trans (hW.mono hw0.size)) ((hW.block _ (Array.getElem?_eq_some_iff.1 hBs).1).trans hBs) h0).mono fun e W' h => ⟨h.1, .inl ⟨[], rfl, h.2⟩⟩
set_option maxHeartbeats 8000000 in
set_option maxRecDepth 100000 in
theorem ve_no (A : Option Addr) (c : Nat) (xs : List Rec) (most : Int) (w : World) (hC : Kd.C kdq w A xs.length xs) (r : Bool)
  (halive : ∀ W, Calls Try.prog 8 #[] W fun e W' => e = .returned (.bool r) ∧ Below W.heap.size W W')
  (hlight : ∀ W, Kd.C kdq W A xs.length xs → Calls Try.prog 7 #[.slice A xs.length c] W fun e W' => e = .returned (.bool true) ∧ Below W.heap.size W W')
  (hR : ∀ W, Kd.C kdq W A xs.length xs → Calls Try.prog 9 #[.slice A xs.length c] W fun e W' => e = .returned (.bool false) ∧ Below W.heap.size W W')
  (beg : Int) (hbeg : ∀ W, Kd.C kdq W A xs.length xs → Calls Try.prog 11 #[.slice A xs.length c] W fun e W' => e = .returned (.int .i64 beg) ∧ Below W.heap.size W W')
  (i1 e1 : Int) (he : ¬ e1 = 0) (hchk : ∀ W, Kd.C kdq W A xs.length xs → Calls Try.prog 27 #[.slice A xs.length c] W fun e W' => e = .returned (.tuple #[.int .i64 i1, .int .i64 e1]) ∧ Below W.heap.size W W') : Calls Try.prog 3 #[.slice A xs.length c, .int .i64 most] w fun e w' => e = .returned (.bool r) ∧ Below w.heap.size w w' := by
  refine (callsIn_wide (n := 4)).1 ?_
  refine callsIn_of_wp_marks Try.func3 rfl trivial ?_ rfl
  simp only [Try.ntmps3, List.size_toArray, List.length_cons, List.length_nil, Nat.reduceAdd, Nat.reduceSub, Array.replicate_succ, Array.replicate_zero, List.push_toArray, List.append_toArray, List.nil_append, List.cons_append]
  have hfn := fn_nil
  gi_wp2_with (first | (refine ⟨trivial, ?_⟩; gi_at_call 7; refine (callsIn_wide.2 (hlight _ (Kd.C_below hC (((Below.refl _ w).alloc (Nat.le_refl _) (.cells #[.int .i64 most] 3)).alloc (by simp) (.cells #[.bool false] 4))))).mono ?_; rintro e w1 ⟨rfl, hb1⟩; have B4 : Boxed w1 (w.heap.size + 1) 4 (.bool false) := (by have q := bx_below (Boxed.new (w.alloc (.cells #[.int .i64 most] 3)) 4 (.bool false)) hb1; rwa [World.size_alloc] at q); have B3 : Boxed w1 w.heap.size 3 (.int .i64 most) := bx_below ((Boxed.new w 3 (.int .i64 most)).alloc _) hb1; have HB1 := Aside0.mk (show Below w.heap.size w w1 from (((Below.refl _ w).alloc (Nat.le_refl _) (.cells #[.int .i64 most] 3)).alloc (by simp) (.cells #[.bool false] 4)).trans (hb1.mono (by simp; omega))); clear hb1; have hc4 := B4.cell; have hf4 := B4.frozen; have hc3 := B3.cell) | (refine ⟨trivial, ?_⟩; gi_at_call 9; refine (callsIn_wide.2 (hR _ (Kd.C_below hC ((HB1.out).alloc HB1.out.size (.cells #[.slice none 0 0] 25))))).mono ?_; rintro e w2 ⟨rfl, hb2⟩; have C3 := bx_below (B3.alloc _) hb2; have C4 := bx_below (B4.alloc _) hb2; have C5 : Boxed w2 w1.heap.size 25 (.slice none 0 0) := bx_below (Boxed.new w1 25 (.slice none 0 0)) hb2; have HB2 := Aside0.mk (show Below w.heap.size w w2 from ((HB1.out).alloc HB1.out.size (.cells #[.slice none 0 0] 25)).trans (hb2.mono (by have := HB1.out.size; simp; omega))); have HS2 := Aside0.mk (show w1.heap.size < w2.heap.size from C5.lt); have HS1 := Aside0.mk B4.lt; clear hb2 hc4 hf4 hc3; have hc5 := C5.cell; have hf5 := C5.frozen) | (refine ⟨trivial, ?_⟩; gi_at_call 11; refine (callsIn_wide.2 (hbeg _ (Kd.C_below hC HB2.out))).mono ?_; rintro e w4 ⟨rfl, hb4⟩; have E3 := bx_below C3 hb4; have E4 := bx_below C4 hb4; have E5 := bx_below C5 hb4; have HB4 := Aside0.mk (HB2.out.trans (hb4.mono HB2.out.size)); clear hb4 hc5 hf5) | (refine ⟨trivial, ?_⟩; gi_at_call 12; refine (each_in _ A xs.length c _).mono ?_; rintro e w5 ⟨rfl, hw5⟩))
  have hw4 : Below w4.heap.size w4 (((w4.alloc (.cells #[.int .i64 beg] 3)).alloc (.cells #[.int .i64 0] 3)).alloc (.cells #[.slice A xs.length c] 22)) := ((((Below.refl _ w4).alloc (Nat.le_refl _) _).alloc (by simp) _).alloc (by simp; omega) _)
  have F6 := ((Boxed.new w4 3 (.int .i64 beg)).alloc (.cells #[.int .i64 0] 3)).alloc (.cells #[.slice A xs.length c] 22)
  have F7 := (Boxed.new (w4.alloc (.cells #[.int .i64 beg] 3)) 3 (.int .i64 0)).alloc (.cells #[.slice A xs.length c] 22)
  have F8 := Boxed.new ((w4.alloc (.cells #[.int .i64 beg] 3)).alloc (.cells #[.int .i64 0] 3)) 22 (.slice A xs.length c)
  simp only [World.size_alloc] at F7 F8
  have S0 : St w.heap.size (w.heap.size + 1) w1.heap.size w4.heap.size (w4.heap.size + 1) 0 most beg none 0 [] ((0 : Nat) : Int) (((w4.alloc (.cells #[.int .i64 beg] 3)).alloc (.cells #[.int .i64 0] 3)).alloc (.cells #[.slice A xs.length c] 22)) := ⟨bx_below E3 hw4, bx_below E4 hw4, bx_below E5 hw4, F6, F7, Kd.R_nil _ _ _ _ _⟩
  have HB5 := Aside0.mk (HB4.out.trans (hw4.mono HB4.out.size))
  have l3 := E3.lt
  have l4 := E4.lt
  have l5 := E5.lt
  have hwb := HB4.out.size
  have h51 := HB1.out.size
  generalize ((w4.alloc (.cells #[.int .i64 beg] 3)).alloc (.cells #[.int .i64 0] 3)).alloc (.cells #[.slice A xs.length c] 22) = W2 at S0 HB5 F8 ⊢
  clear hw4 F6 F7 E3 E4 E5 HB4 hfn
  obtain ⟨b7, hb7⟩ : ∃ b, b = w4.heap.size + 1 := ⟨_, rfl⟩
  obtain ⟨b6, hb6⟩ : ∃ b, b = w4.heap.size := ⟨_, rfl⟩
  obtain ⟨b5, hb5⟩ : ∃ b, b = w1.heap.size := ⟨_, rfl⟩
  obtain ⟨b4, hb4⟩ : ∃ b, b = w.heap.size + 1 := ⟨_, rfl⟩
  obtain ⟨b3, hb3⟩ : ∃ b, b = w.heap.size := ⟨_, rfl⟩
  have n3 : b3 ≠ b7 := by omega
  have n4 : b4 ≠ b7 := by omega
  have n5 : b5 ≠ b7 := by omega
  have n6 : b6 ≠ b7 := by omega
  have hle4 : w.heap.size ≤ b4 := by omega
  have hle7 : w.heap.size ≤ b7 := by omega
  rw [← hb7] at S0 F8 ⊢
  rw [← hb6, ← hb5, ← hb4, ← hb3] at S0 ⊢
  have hW2 := HB5.out.size
  clear hb7 hb6 hb5 hb4 hb3 l3 l4 l5 hwb h51 HS1 HS2 HB1 HB2
  refine wpIn_rangeFunc_ownG rfl (by omega) (gf := 26) (lb := #[.pointer (some ⟨b7 + 1, 0, none⟩)]) rfl trivial (enters_of Try.func26 (by kernel_rfl) rfl)
    (each_no _ (by omega) (b7 + 1) w A c xs hC i1 e1 he hchk W2 F8 HB5.out) Kr.trans (kr_b (by omega)) (Below.refl _ _) (fun _ => rfl)
    (fun pre W => St b3 b4 b5 b6 b7 0 most beg none 0 [] ((0 : Nat) : Int) W ∧ Below w.heap.size w W)
    (fun _ _ _ => False)
    (OwnFrom.and (Own.from (show Own (fun (pre : List MK) W => St b3 b4 b5 b6 b7 0 most beg none 0 [] ((0 : Nat) : Int) W) from fun s X Y row hs hg hr => St.kept hs hg hr) _) (ownFrom_below (Nat.le_refl _) (by omega)))
    (fun _ _ _ _ _ hs _ _ => hs)
    ⟨S0, HB5.out⟩
    (fun x => { tmps := #[Value.slice A xs.length c, Value.int .i64 most, undef, Value.pointer (some ⟨b3, 0, none⟩), Value.pointer (some ⟨b4, 0, none⟩), Value.pointer (some ⟨b5, 0, none⟩), Value.pointer (some ⟨b6, 0, none⟩), Value.pointer (some ⟨b7, 0, none⟩), Value.func (Fn.func 26) #[] #[Value.pointer (some ⟨b7 + 1, 0, none⟩)], Value.int .i64 x.1.1, Value.int .i64 x.1.2, Value.slice A xs.length c, Value.bool true, Value.bool false, undef, Value.slice A xs.length c, Value.bool false, undef, undef, Value.slice A xs.length c, Value.int .i64 beg, Value.slice A xs.length c, Value.func (Fn.func 26) #[] #[Value.pointer (some ⟨b7 + 1, 0, none⟩)], Value.func (Fn.func 26) #[] #[Value.pointer (some ⟨b7 + 1, 0, none⟩)], Value.bool false, Value.func (Fn.func 26) #[] #[Value.pointer (some ⟨b7 + 1, 0, none⟩)], Value.int .i64 x.1.1, Value.int .i64 x.1.2, undef, undef, undef, undef, undef, undef, undef, undef, undef, undef, undef, undef, undef, undef, undef, undef, undef, undef, undef, undef, undef, undef, undef, undef, undef, undef, undef, undef, undef, undef, undef, undef, undef, undef, undef, undef], defers := [] }) ?assign ?body ?done ?stop
  case assign =>
    intro l x W K hK
    gi_wp2
    exact hK
  case body =>
    intro l pre x W _ h
    exact absurd h (Nat.not_lt_zero _)
  case done =>
    rintro D ys W hD hys ⟨hS, hB⟩ hK
    have HS := Aside0.mk hS
    have HB := Aside0.mk hB
    have HK := Aside0.mk hK
    have HDD := Aside0.mk hD
    have hc3 := hS.B3.cell
    have hc4 := hS.B4.cell
    have hf4 := hS.B4.frozen
    have hc5 := hS.B5.cell
    have hc7 := hS.B7.cell
    clear hS hB hK hD hlight hR hbeg hchk hC hys
    gi_wp2_with (refine ⟨trivial, ?_⟩; gi_at_call 8; refine (callsIn_wide.2 (halive _)).mono ?_; rintro e W3 ⟨rfl, hb3⟩; have C4 := bx_below HS.out.B4 hb3; have HK3 := Aside0.mk ((hb3.block D (Array.getElem?_eq_some_iff.1 HK.out).1).trans HK.out); have HB3 := Aside0.mk (HB.out.trans (hb3.mono HB.out.size)); clear hb3 hc4 hf4 hc3 hc5 hc7; have hc4 := C4.cell; have hf4 := C4.frozen)
    have hK' := (KeepsOthers.setCell W3 ⟨b4, 0, none⟩ (.bool r)).same D _ HK3.out rfl
    have hc6_ := cell_kept (World.cell?_setCell_same' W3 ⟨b4, 0, none⟩ (.bool r) (by rw [hc4]; rfl)) (grownBy_putObj' _ D (.deferred none)) (fun k e => by cases e; exact ⟨_, hK', rfl⟩)
    refine ⟨by simp, .inl ⟨_, _, rfl, run_takeDeferred hK', ?_⟩⟩
    exact ⟨.bool r, by simp [results, Try.f3, go_sem, hc6_], rfl, (HB3.out.setCell (p := ⟨b4, 0, none⟩) hle4 _).trans (belowK_b (w := w) (Nat.le_refl _) _ D _ _ (Nat.le_trans hW2 HDD.out) hK' rfl rfl)⟩
  case stop =>
    rintro D c pre W _ h _ _
    exact h.elim
end Go.Proofs.Ytegmofaiobdilaa.Vw5
