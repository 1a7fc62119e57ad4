/- Written by a program of this session: Go functions that the law HeapOrder reaches, as Lean functions, each with a proof that the Go code comes to just what it says; every input of the kinds that a contract names. -/
import Derived.Test.YtojaflnejkbjnaaMHeapOrderx0
import Derived.Test.YtojaflnejkbjnaaMHeapOrderx1
namespace Go.Proofs.Ytojaflnejkbjnaa.MHeapOrder
open Go.RowKit Go.Proofs.YtojaflnejkbjnaaW.PrintWords Go.Proofs.YtojaflnejkbjnaaW.PrintLast Go.Proofs.YtojaflnejkbjnaaW.PrintMore
attribute [local go_sem] max2_int min2_int max_two min_two max_three min_three max_four min_four   -- for this text's walks alone
set_option linter.unusedVariables false
set_option linter.unusedSimpArgs false
set_option linter.unnecessarySimpa false

/-! ### haulierlaw23_HeapOrder: function 4 (typed by hand) -/
open Go.Proofs.Ytojaflnejkbjnaa.Hp1 Go.Proofs.Ytojaflnejkbjnaa.Hp2 Go.Proofs.Ytojaflnejkbjnaa.Hp3 Go.Proofs.Ytojaflnejkbjnaa.Hp4 Go.Proofs.Ytojaflnejkbjnaa.Hp5 Go.Proofs.Ytojaflnejkbjnaa.Hp6 Go.Proofs.Ytojaflnejkbjnaa.Hp7 Go.Proofs.Ytojaflnejkbjnaa.Hp8 Go.Proofs.Ytojaflnejkbjnaa.Hp9 Go.Proofs.Ytojaflnejkbjnaa.Hp10 Go.Proofs.Ytojaflnejkbjnaa.Hp11 Go.Proofs.Ytojaflnejkbjnaa.Hp12
attribute [local go_sem] ne33
theorem haulierlaw23_HeapOrder.R_map {β : Type} {f : β → It} {e : Nat} {w : World} {base : Nat} {ok : Nat → Prop} {v : Value} {xs : List β} (h : Kd.R (Kd.iso kdi f) e w base ok v xs) : Kd.R kdi e w base ok v (xs.map f) := by
  obtain ⟨h0, inner, ho, hr⟩ := h
  refine ⟨h0, inner, by rw [List.length_map]; exact ho, by rw [List.length_map]; exact hr.1, fun j p hj => ?_⟩
  rw [List.getElem?_map] at hj
  obtain ⟨q, hq, rfl⟩ := Option.map_eq_some_iff.1 hj
  exact hr.2 j q hq
def haulierlaw23_HeapOrder.t (x : S32) : It := (x.f0, x.f1, x.f2)
def haulierlaw23_HeapOrder.t3 (x : S33) : It := (x.f0, x.f1, x.f2)
theorem haulierlaw23_HeapOrder.w64 (i : Nat) (h : i ≤ 1000) : wrap64 ((i : Int) + 1) = ((i + 1 : Nat) : Int) := by
  unfold wrap64
  omega
theorem haulierlaw23_HeapOrder.rd_ {l : List S32} {i : Nat} (h : i < l.length) : rd_T32 l (i : Int) = l[i] := by
  unfold rd_T32
  simp [h]
theorem haulierlaw23_HeapOrder.give_l (l : List S32) (hl : l.length ≤ 60) : ∀ d k i x3, l.length - i ≤ d → d < k → i ≤ l.length → x3.length = i → haulierlaw23_give.l0 k x3 l (l.length : Int) (i : Int) = some (x3 ++ (l.drop i).map (fun x => (⟨x.f0, x.f1, x.f2⟩ : S33))) := by
  intro d
  induction d with
  | zero =>
    intro k i x3 h hk hi hx
    obtain ⟨k, rfl⟩ : ∃ q, k = q + 1 := ⟨k - 1, by omega⟩
    rw [haulierlaw23_give.l0, if_neg (by omega), List.drop_of_length_le (by omega)]
    simp
  | succ d ih =>
    intro k i x3 h hk hi hx
    obtain ⟨k, rfl⟩ : ∃ q, k = q + 1 := ⟨k - 1, by omega⟩
    by_cases c : i < l.length
    · rw [haulierlaw23_give.l0, if_pos (by omega), if_pos (by omega), if_pos (by omega), if_pos (by omega), haulierlaw23_HeapOrder.w64 i (by omega), haulierlaw23_HeapOrder.rd_ c, ih k (i + 1) _ (by omega) (by omega) (by omega) (by simp [hx]), List.drop_eq_getElem_cons c]
      simp only [List.map_cons, List.append_assoc, List.singleton_append]
    · rw [haulierlaw23_give.l0, if_neg (by omega), List.drop_of_length_le (by omega)]
      simp
theorem haulierlaw23_HeapOrder.give_ (k : Nat) (l : List S32) (hk : 1000 ≤ k) (hl : l.length ≤ 60) : ∃ r, haulierlaw23_give.f k l = some r ∧ r.map haulierlaw23_HeapOrder.t3 = l.map haulierlaw23_HeapOrder.t := by
  refine ⟨_, haulierlaw23_HeapOrder.give_l l hl l.length k 0 [] (by omega) (by omega) (by omega) rfl, ?_⟩
  simp [haulierlaw23_HeapOrder.t3, haulierlaw23_HeapOrder.t]
theorem haulierlaw23_HeapOrder.givec (k : Nat) (A : Option Addr) (c : Nat) (l : List S32) (w : World) (hk : 1000 ≤ k) (hl : l.length ≤ 60) (hr : Kd.C k32 w A l.length l) (hc : l.length ≤ c) : Calls Try.prog 8 #[.slice A l.length c] w fun e w' => ∃ A1 c1, e = .returned (.slice A1 l.length c1) ∧ Kd.R kdi 33 w' w.heap.size (fun _ => True) (.slice A1 l.length c1) (l.map haulierlaw23_HeapOrder.t) ∧ Below w.heap.size w w' := by
  obtain ⟨r, h1, h2⟩ := haulierlaw23_HeapOrder.give_ k l hk hl
  refine (haulierlaw23_give.calls k A c l r w hr hc h1).mono ?_
  rintro e w' ⟨v, rfl, ho, hb⟩
  obtain ⟨A1, c1, rfl⟩ := Kd.R_slice ho
  have hlen : r.length = l.length := by
    have := congrArg List.length h2
    simpa using this
  rw [hlen] at ho
  refine ⟨A1, c1, by rw [hlen], ?_, hb⟩
  rw [← h2]
  exact haulierlaw23_HeapOrder.R_map ho
def haulierlaw23_HeapOrder.f (k : Nat) (l0 : List S32) (x0 x1 x2 y0 y1 y2 : Int) : Option Bool := if 1000 ≤ k then some true else none
theorem haulierlaw23_HeapOrder.mono : ∀ l0 x0 x1 x2 y0 y1 y2 k, LeO (haulierlaw23_HeapOrder.f k l0 x0 x1 x2 y0 y1 y2) (haulierlaw23_HeapOrder.f (k + 1) l0 x0 x1 x2 y0 y1 y2) := by
  intro l0 x0 x1 x2 y0 y1 y2 k r h
  unfold haulierlaw23_HeapOrder.f at h ⊢
  split at h
  · rw [if_pos (by omega)]
    exact h
  · cases h
theorem haulierlaw23_HeapOrder.f_true {k : Nat} {r : Bool} {l0 : List S32} {x0 x1 x2 y0 y1 y2 : Int} (h : haulierlaw23_HeapOrder.f k l0 x0 x1 x2 y0 y1 y2 = some r) : 1000 ≤ k ∧ r = true := by
  unfold haulierlaw23_HeapOrder.f at h
  split at h
  · exact ⟨by assumption, (Option.some.inj h).symm⟩
  · cases h

theorem haulierlaw23_HeapOrder.eq33 (w : World) (x0 x1 x2 : Int) : (binOp .eql 33 (.agg #[.int .i64 x0, .int .i64 x1, .int .i64 x2]) (.agg #[.int .i64 x0, .int .i64 x1, .int .i64 x2])).run Try.prog w = .ok (.bool true) w := by
  rw [eql33]
  simp
theorem haulierlaw23_HeapOrder.no33 (w : World) (x0 x1 x2 y0 y1 y2 : Int) (h : (x0, x1, x2) ≠ (y0, y1, y2)) : (binOp .eql 33 (.agg #[.int .i64 x0, .int .i64 x1, .int .i64 x2]) (.agg #[.int .i64 y0, .int .i64 y1, .int .i64 y2])).run Try.prog w = .ok (.bool false) w := by
  rw [eql33]
  have hb : (x0 == y0 && (x1 == y1 && (x2 == y2))) = false := by
    cases h2 : (x0 == y0 && (x1 == y1 && (x2 == y2))) with
    | false => rfl
    | true =>
      simp only [Bool.and_eq_true, beq_iff_eq] at h2
      exact absurd (by rw [h2.1, h2.2.1, h2.2.2]) h
  rw [hb]
theorem haulierlaw23_HeapOrder.cnt_y {S : List It} {j : Nat} {p : It} (h : j < S.length) (e : ri S j = p) : (S.take (j + 1)).count p = (S.take j).count p + 1 := by
  rw [List.take_succ_eq_append_getElem h, List.count_append, ← ri_get h, e]
  simp
theorem haulierlaw23_HeapOrder.cnt_n {S : List It} {j : Nat} {p : It} (h : j < S.length) (e : ri S j ≠ p) : (S.take (j + 1)).count p = (S.take j).count p := by
  rw [List.take_succ_eq_append_getElem h, List.count_append, ← ri_get h, List.count_singleton]
  simp [e]
theorem haulierlaw23_HeapOrder.at_sorted {S : List It} (h : S.Pairwise (fun a b => lt3 b a = false)) {i j : Nat} (hj : j < i) (hi : i < S.length) : lt3 (ri S i) (ri S j) = false := by
  rw [ri_get hi, ri_get (by omega)]
  exact List.pairwise_iff_getElem.1 h j i (by omega) hi hj
theorem haulierlaw23_HeapOrder.sorted_ (L : List It) : (isort L).Pairwise (fun a b => lt3 b a = false) ∧ (isort L).Perm L := by
  refine ⟨fold_sorted L [] List.Pairwise.nil, ?_⟩
  have := fold_perm L []
  rwa [List.append_nil] at this
set_option maxHeartbeats 8000000 in
set_option maxRecDepth 100000 in
theorem haulierlaw23_HeapOrder.wa (A0 : Option Addr) (c0 : Nat) (l0 : List S32) (x0 x1 x2 y0 y1 y2 : Int) (w : World) (hr0 : Kd.C k32 w A0 l0.length l0) (hc0 : l0.length ≤ c0) (h1 : 60 < l0.length) : Calls Try.prog 4 #[.slice A0 l0.length c0, .agg #[.int .i64 x0, .int .i64 x1, .int .i64 x2], .agg #[.int .i64 y0, .int .i64 y1, .int .i64 y2]] w fun e w' => e = .returned (.bool true) ∧ Below w.heap.size w w' := by
  clear hr0 hc0
  have g1 : ((60 : Int) < (l0.length : Int)) = True := eq_true (by omega)
  have g2 : ((l0.length : Int) > 60) = True := eq_true (by omega)
  clear h1
  go_enter Try.func4, Try.ntmps4
  go_wp2_with (first | ((with_reducible refine gate_dst (N := 4) rfl ?_); refine box_event ?hg (N := 4) ?hd (cs := #[.int .i64 x0, .int .i64 x1, .int .i64 x2]) (t := 32) ?hr ?_; (case hd => rfl); (case hg => rfl); (case hr => first | (go_simp; done) | (go_simp; rfl)); intro g4 hg_ wv hbox hb; have B4 := Aside0.mk hbox; have HB := Aside0.mk hb; clear hbox hg_ hb) | ((with_reducible refine gate_dst (N := 5) rfl ?_); refine box_event ?hg (N := 5) ?hd (cs := #[.int .i64 y0, .int .i64 y1, .int .i64 y2]) (t := 32) ?hr ?_; (case hd => rfl); (case hg => rfl); (case hr => first | (go_simp; done) | (go_simp; rfl)); intro g5 hg_ wv hbox hb; replace B4 := Aside0.mk (blk_below B4.out hb); have B5 := Aside0.mk hbox; replace HB := Aside0.mk (below_step HB.out hb); clear hbox hg_ hb) | (go_at_call 6; (with_reducible refine (alive_ _).mono ?_); rintro e wv ⟨rfl, hb⟩; replace HB := Aside0.mk (below_step HB.out hb); clear hb))
  first | go_ret | go_ret2
  exact ⟨by first | rfl | simp, HB.out⟩
set_option maxHeartbeats 8000000 in
set_option maxRecDepth 100000 in
theorem haulierlaw23_HeapOrder.tf (k : Nat) (A0 : Option Addr) (c0 : Nat) (l0 : List S32) (x0 x1 x2 y0 y1 y2 : Int) (w : World) (hr0 : Kd.C k32 w A0 l0.length l0) (hc0 : l0.length ≤ c0) (h1 : ¬ 60 < l0.length) (hk : 1000 ≤ k) (hxy : lt3 (x0, x1, x2) (y0, y1, y2) = true) (hyx : lt3 (y0, y1, y2) (x0, x1, x2) = false) : Calls Try.prog 4 #[.slice A0 l0.length c0, .agg #[.int .i64 x0, .int .i64 x1, .int .i64 x2], .agg #[.int .i64 y0, .int .i64 y1, .int .i64 y2]] w fun e w' => e = .returned (.bool true) ∧ Below w.heap.size w w' := by
  have g1 : ((60 : Int) < (l0.length : Int)) = False := eq_false (by omega)
  have g2 : ((l0.length : Int) > 60) = False := eq_false (by omega)
  have HK := Aside0.mk hk
  have HR0 := Aside0.mk hr0
  have HC0 := Aside0.mk hc0
  have HL0 := Aside0.mk (show l0.length ≤ 60 by omega)
  have HXY := Aside0.mk hxy
  have HYX := Aside0.mk hyx
  clear hr0 hc0 h1 hk
  go_enter Try.func4, Try.ntmps4
  go_wp2_with (first | ((with_reducible refine gate_dst (N := 4) rfl ?_); refine box_event ?hg (N := 4) ?hd (cs := #[.int .i64 x0, .int .i64 x1, .int .i64 x2]) (t := 32) ?hr ?_; (case hd => rfl); (case hg => rfl); (case hr => first | (go_simp; done) | (go_simp; rfl)); intro g4 hg_ wv hbox hb; have B4 := Aside0.mk hbox; have HB := Aside0.mk hb; clear hbox hg_ hb) | ((with_reducible refine gate_dst (N := 5) rfl ?_); refine box_event ?hg (N := 5) ?hd (cs := #[.int .i64 y0, .int .i64 y1, .int .i64 y2]) (t := 32) ?hr ?_; (case hd => rfl); (case hg => rfl); (case hr => first | (go_simp; done) | (go_simp; rfl)); intro g5 hg_ wv hbox hb; replace B4 := Aside0.mk (blk_below B4.out hb); have B5 := Aside0.mk hbox; replace HB := Aside0.mk (below_step HB.out hb); clear hbox hg_ hb))
  refine start_ (n := 6) (S := fun w' => w'.cell? ⟨g4, 0, none⟩ = some (.int .i64 x0) ∧ w'.cell? ⟨g4, 1, none⟩ = some (.int .i64 x1) ∧ w'.cell? ⟨g4, 2, none⟩ = some (.int .i64 x2) ∧ w'.cell? ⟨g5, 0, none⟩ = some (.int .i64 y0) ∧ w'.cell? ⟨g5, 1, none⟩ = some (.int .i64 y1) ∧ w'.cell? ⟨g5, 2, none⟩ = some (.int .i64 y2)) (ds := [5]) #[false, false, false, false, false, false] (by kernel_rfl) rfl rfl ⟨(blk_cell B4.out 0).trans rfl, (blk_cell B4.out 1).trans rfl, (blk_cell B4.out 2).trans rfl, (blk_cell B5.out 0).trans rfl, (blk_cell B5.out 1).trans rfl, (blk_cell B5.out 2).trans rfl⟩ (fun hHeld => ?_)
  replace HB := Aside0.mk (HB.out.drew)
  replace B4 := Aside0.mk (show wv.drew.heap[g4]? = _ from B4.out)
  replace B5 := Aside0.mk (show wv.drew.heap[g5]? = _ from B5.out)
  generalize wv.drew = wv at HB B4 B5 hHeld ⊢
  refine take_ (i := 0) (N := some 22) (v := ?_) (a' := ?_) #[true, false, false, false, false, false] rfl rfl (by kernel_rfl) (fun _ _ _ h => h) (Or.inl ⟨by rfl, ?_⟩) hHeld ?_ ?_
  rotate_left
  · rintro w' ⟨s0, s1, s2, s3, s4, s5⟩
    go_simp
    with_reducible rfl
  rotate_left
  · simp only [Act.put, List.setIfInBounds_toArray, List.set_cons_zero, List.set_cons_succ, i64_w, i32_w]
    rfl
  refine take_ (i := 1) (N := some 23) (v := ?_) (a' := ?_) #[true, true, false, false, false, false] rfl rfl (by kernel_rfl) (fun _ _ _ h => h) (Or.inl ⟨by rfl, ?_⟩) hHeld ?_ ?_
  rotate_left
  · rintro w' ⟨s0, s1, s2, s3, s4, s5⟩
    go_simp
    with_reducible rfl
  rotate_left
  · simp only [Act.put, List.setIfInBounds_toArray, List.set_cons_zero, List.set_cons_succ, i64_w, i32_w]
    rfl
  refine join_ (σ := Nat × Nat) 2 #[true, true, true, true, false, false] (fun s => [(7, .pointer (some ⟨s.1, 0, none⟩)), (8, .pointer (some ⟨s.2, 0, none⟩))]) (fun s w' => w'.heap[s.1]? = some (.cells #[.int .i64 0, .int .i64 0, .int .i64 0] 33 (0, 0)) ∧ w'.heap[s.2]? = some (.cells #[.int .i64 0, .int .i64 0, .int .i64 0] 33 (0, 0)) ∧ s.1 ≠ s.2 ∧ w.heap.size ≤ s.1 ∧ w.heap.size ≤ s.2 ∧ Below w.heap.size w w' ∧ w'.heap[g4]? = some (.cells #[.int .i64 x0, .int .i64 x1, .int .i64 x2] 32 (0, 0)) ∧ w'.heap[g5]? = some (.cells #[.int .i64 y0, .int .i64 y1, .int .i64 y2] 32 (0, 0))) ?_ ?_
  rotate_left
  · intro hCont
    refine two_ (i := 2) (j := 3) (Ni := some 7) (Nj := some 8) #[true, true, true, false, false, false] #[true, true, false, true, false, false] rfl rfl rfl rfl (by kernel_rfl) (by decide) (by decide) (fun K hK => ?_) (fun K hK => ?_)
    · skip
      refine value_ (w1 := wv.alloc (.cells #[.int .i64 0, .int .i64 0, .int .i64 0] 33 (0, 0))) (v := .pointer (some ⟨wv.heap.size, 0, none⟩)) (by rfl) rfl (by first | (go_simp; done) | (go_simp; rfl)) ?_
      have Bx := Aside0.mk (blk_new wv (.cells #[.int .i64 0, .int .i64 0, .int .i64 0] 33 (0, 0)))
      have Sx := Aside0.mk (below_size HB.out)
      replace B4 := Aside0.mk (blk_alloc B4.out (.cells #[.int .i64 0, .int .i64 0, .int .i64 0] 33 (0, 0)))
      replace B5 := Aside0.mk (blk_alloc B5.out (.cells #[.int .i64 0, .int .i64 0, .int .i64 0] 33 (0, 0)))
      replace HB := Aside0.mk (below_alloc HB.out (.cells #[.int .i64 0, .int .i64 0, .int .i64 0] 33 (0, 0)))
      generalize wv.alloc (Obj.cells #[.int .i64 0, .int .i64 0, .int .i64 0] 33 (0, 0)) = we at Bx HB B4 B5 ⊢
      generalize wv.heap.size = sx at Bx Sx  ⊢
      generalize we = wv at Bx HB B4 B5 ⊢
      refine hK.out _ _ ⟨(blk_cell B4.out 0).trans rfl, (blk_cell B4.out 1).trans rfl, (blk_cell B4.out 2).trans rfl, (blk_cell B5.out 0).trans rfl, (blk_cell B5.out 1).trans rfl, (blk_cell B5.out 2).trans rfl⟩ (fun hHeld => ?_)
      clear hK K
      refine norm_ (a' := ?_) ?_ ?_
      rotate_left
      · show Act.put _ (some 7) _ = _
        simp only [Act.put, List.setIfInBounds_toArray, List.set_cons_zero, List.set_cons_succ, i64_w, i32_w]
        rfl
      refine one_ (i := 3) (N := some 8) #[true, true, true, true, false, false] rfl rfl (by kernel_rfl) (by decide) (fun K hK => ?_)
      refine value_ (w1 := wv.alloc (.cells #[.int .i64 0, .int .i64 0, .int .i64 0] 33 (0, 0))) (v := .pointer (some ⟨wv.heap.size, 0, none⟩)) (by rfl) rfl (by first | (go_simp; done) | (go_simp; rfl)) ?_
      have By := Aside0.mk (blk_new wv (.cells #[.int .i64 0, .int .i64 0, .int .i64 0] 33 (0, 0)))
      have NXY := Aside0.mk (Nat.ne_of_lt (blk_lt Bx.out))
      have Sy := Aside0.mk (below_size HB.out)
      replace B4 := Aside0.mk (blk_alloc B4.out (.cells #[.int .i64 0, .int .i64 0, .int .i64 0] 33 (0, 0)))
      replace B5 := Aside0.mk (blk_alloc B5.out (.cells #[.int .i64 0, .int .i64 0, .int .i64 0] 33 (0, 0)))
      replace Bx := Aside0.mk (blk_alloc Bx.out (.cells #[.int .i64 0, .int .i64 0, .int .i64 0] 33 (0, 0)))
      replace HB := Aside0.mk (below_alloc HB.out (.cells #[.int .i64 0, .int .i64 0, .int .i64 0] 33 (0, 0)))
      generalize wv.alloc (Obj.cells #[.int .i64 0, .int .i64 0, .int .i64 0] 33 (0, 0)) = we at By HB B4 B5 Bx ⊢
      generalize wv.heap.size = sy at By Sy NXY ⊢
      generalize we = wv at By HB B4 B5 Bx ⊢
      refine hK.out _ _ ⟨(blk_cell B4.out 0).trans rfl, (blk_cell B4.out 1).trans rfl, (blk_cell B4.out 2).trans rfl, (blk_cell B5.out 0).trans rfl, (blk_cell B5.out 1).trans rfl, (blk_cell B5.out 2).trans rfl⟩ (fun hHeld => ?_)
      clear hK K
      refine norm_ (a' := ?_) ?_ ?_
      rotate_left
      · show Act.put _ (some 8) _ = _
        simp only [Act.put, List.setIfInBounds_toArray, List.set_cons_zero, List.set_cons_succ, i64_w, i32_w]
        rfl
      exact norm_ (by simp only [putAll, Act.put, List.setIfInBounds_toArray, List.set_cons_zero, List.set_cons_succ]) (hCont (sx, sy) _ ⟨Bx.out, By.out, NXY.out, Sx.out, Sy.out, HB.out, B4.out, B5.out⟩)
    · skip
      refine value_ (w1 := wv.alloc (.cells #[.int .i64 0, .int .i64 0, .int .i64 0] 33 (0, 0))) (v := .pointer (some ⟨wv.heap.size, 0, none⟩)) (by rfl) rfl (by first | (go_simp; done) | (go_simp; rfl)) ?_
      have By := Aside0.mk (blk_new wv (.cells #[.int .i64 0, .int .i64 0, .int .i64 0] 33 (0, 0)))
      have Sy := Aside0.mk (below_size HB.out)
      replace B4 := Aside0.mk (blk_alloc B4.out (.cells #[.int .i64 0, .int .i64 0, .int .i64 0] 33 (0, 0)))
      replace B5 := Aside0.mk (blk_alloc B5.out (.cells #[.int .i64 0, .int .i64 0, .int .i64 0] 33 (0, 0)))
      replace HB := Aside0.mk (below_alloc HB.out (.cells #[.int .i64 0, .int .i64 0, .int .i64 0] 33 (0, 0)))
      generalize wv.alloc (Obj.cells #[.int .i64 0, .int .i64 0, .int .i64 0] 33 (0, 0)) = we at By HB B4 B5 ⊢
      generalize wv.heap.size = sy at By Sy  ⊢
      generalize we = wv at By HB B4 B5 ⊢
      refine hK.out _ _ ⟨(blk_cell B4.out 0).trans rfl, (blk_cell B4.out 1).trans rfl, (blk_cell B4.out 2).trans rfl, (blk_cell B5.out 0).trans rfl, (blk_cell B5.out 1).trans rfl, (blk_cell B5.out 2).trans rfl⟩ (fun hHeld => ?_)
      clear hK K
      refine norm_ (a' := ?_) ?_ ?_
      rotate_left
      · show Act.put _ (some 8) _ = _
        simp only [Act.put, List.setIfInBounds_toArray, List.set_cons_zero, List.set_cons_succ, i64_w, i32_w]
        rfl
      refine one_ (i := 2) (N := some 7) #[true, true, true, true, false, false] rfl rfl (by kernel_rfl) (by decide) (fun K hK => ?_)
      refine value_ (w1 := wv.alloc (.cells #[.int .i64 0, .int .i64 0, .int .i64 0] 33 (0, 0))) (v := .pointer (some ⟨wv.heap.size, 0, none⟩)) (by rfl) rfl (by first | (go_simp; done) | (go_simp; rfl)) ?_
      have Bx := Aside0.mk (blk_new wv (.cells #[.int .i64 0, .int .i64 0, .int .i64 0] 33 (0, 0)))
      have NXY := Aside0.mk (Nat.ne_of_lt (blk_lt By.out))
      have Sx := Aside0.mk (below_size HB.out)
      replace B4 := Aside0.mk (blk_alloc B4.out (.cells #[.int .i64 0, .int .i64 0, .int .i64 0] 33 (0, 0)))
      replace B5 := Aside0.mk (blk_alloc B5.out (.cells #[.int .i64 0, .int .i64 0, .int .i64 0] 33 (0, 0)))
      replace By := Aside0.mk (blk_alloc By.out (.cells #[.int .i64 0, .int .i64 0, .int .i64 0] 33 (0, 0)))
      replace HB := Aside0.mk (below_alloc HB.out (.cells #[.int .i64 0, .int .i64 0, .int .i64 0] 33 (0, 0)))
      generalize wv.alloc (Obj.cells #[.int .i64 0, .int .i64 0, .int .i64 0] 33 (0, 0)) = we at Bx HB B4 B5 By ⊢
      generalize wv.heap.size = sx at Bx Sx NXY ⊢
      generalize we = wv at Bx HB B4 B5 By ⊢
      refine hK.out _ _ ⟨(blk_cell B4.out 0).trans rfl, (blk_cell B4.out 1).trans rfl, (blk_cell B4.out 2).trans rfl, (blk_cell B5.out 0).trans rfl, (blk_cell B5.out 1).trans rfl, (blk_cell B5.out 2).trans rfl⟩ (fun hHeld => ?_)
      clear hK K
      refine norm_ (a' := ?_) ?_ ?_
      rotate_left
      · show Act.put _ (some 7) _ = _
        simp only [Act.put, List.setIfInBounds_toArray, List.set_cons_zero, List.set_cons_succ, i64_w, i32_w]
        rfl
      exact norm_ (by simp only [putAll, Act.put, List.setIfInBounds_toArray, List.set_cons_zero, List.set_cons_succ]) (hCont (sx, sy) _ ⟨Bx.out, By.out, NXY.out.symm, Sx.out, Sy.out, HB.out, B4.out, B5.out⟩)
  rintro ⟨gx, gy⟩ wx ⟨BX0, BY0, nxy, SX, SY, HB0, BA0, BB0⟩
  replace HB := Aside0.mk HB0
  have hHeld : (wx.cell? ⟨g4, 0, none⟩ = some (.int .i64 x0) ∧ wx.cell? ⟨g4, 1, none⟩ = some (.int .i64 x1) ∧ wx.cell? ⟨g4, 2, none⟩ = some (.int .i64 x2) ∧ wx.cell? ⟨g5, 0, none⟩ = some (.int .i64 y0) ∧ wx.cell? ⟨g5, 1, none⟩ = some (.int .i64 y1) ∧ wx.cell? ⟨g5, 2, none⟩ = some (.int .i64 y2)) := ⟨(blk_cell BA0 0).trans rfl, (blk_cell BA0 1).trans rfl, (blk_cell BA0 2).trans rfl, (blk_cell BB0 0).trans rfl, (blk_cell BB0 1).trans rfl, (blk_cell BB0 2).trans rfl⟩
  clear HB0 B4 B5
  refine norm_ (a' := ?_) ?_ ?_
  rotate_left
  · simp only [putAll, Act.put, List.setIfInBounds_toArray, List.set_cons_zero, List.set_cons_succ]
    rfl
  refine one_ (i := 4) (N := none) #[true, true, true, true, true, false] rfl rfl (by kernel_rfl) (by decide) (fun K hK => ?_)
  rw [if_pos (by rfl)]
  refine wp_store_row 33 _ _ rfl gx #[.int .i64 x0, .int .i64 x1, .int .i64 x2] rfl rfl 33 #[.int .i64 0, .int .i64 0, .int .i64 0] BX0 (by kernel_rfl) rfl (by first | kernel_rfl | (simp [Value.oneCell']; done) | decide) ?_
  refine hK.out _ _ ⟨(blk_cell ((setRow_other _ _ _ _ (blk_ne BA0 BX0 (by decide))).trans BA0) 0).trans rfl, (blk_cell ((setRow_other _ _ _ _ (blk_ne BA0 BX0 (by decide))).trans BA0) 1).trans rfl, (blk_cell ((setRow_other _ _ _ _ (blk_ne BA0 BX0 (by decide))).trans BA0) 2).trans rfl, (blk_cell ((setRow_other _ _ _ _ (blk_ne BB0 BX0 (by decide))).trans BB0) 0).trans rfl, (blk_cell ((setRow_other _ _ _ _ (blk_ne BB0 BX0 (by decide))).trans BB0) 1).trans rfl, (blk_cell ((setRow_other _ _ _ _ (blk_ne BB0 BX0 (by decide))).trans BB0) 2).trans rfl⟩ (fun hHeld => ?_)
  clear hK K
  refine last_ (i := 5) (N := none) #[true, true, true, true, true, true] rfl rfl (by kernel_rfl) (by decide) (fun K hK => ?_)
  rw [if_pos (by rfl)]
  refine wp_store_row 33 _ _ rfl gy #[.int .i64 y0, .int .i64 y1, .int .i64 y2] rfl rfl 33 #[.int .i64 0, .int .i64 0, .int .i64 0] ((setRow_other _ _ _ _ nxy.symm).trans BY0) (by kernel_rfl) rfl (by first | kernel_rfl | (simp [Value.oneCell']; done) | decide) ?_
  refine hK.out _ _ ?_
  clear hK K
  refine done_ (by kernel_rfl) ?_
  obtain ⟨wq, hwq⟩ : ∃ wq, wq = (wx.setRow gx #[.int .i64 x0, .int .i64 x1, .int .i64 x2]).setRow gy #[.int .i64 y0, .int .i64 y1, .int .i64 y2] := ⟨_, rfl⟩
  rw [← hwq]
  have BX := Aside0.mk (show wq.heap[gx]? = some (.cells #[.int .i64 x0, .int .i64 x1, .int .i64 x2] 33 (0, 0)) by subst hwq; exact (setRow_other _ _ _ _ nxy).trans (setRow_heap _ _ _ _ _ _ BX0))
  have BY := Aside0.mk (show wq.heap[gy]? = some (.cells #[.int .i64 y0, .int .i64 y1, .int .i64 y2] 33 (0, 0)) by subst hwq; exact setRow_heap _ _ _ _ _ _ ((setRow_other _ _ _ _ nxy.symm).trans BY0))
  replace HB := Aside0.mk (show Below w.heap.size w wq by subst hwq; exact below_setRow (below_setRow HB.out SX _) SY _)
  clear hwq hHeld BX0 BY0 BA0 BB0 SX SY nxy
  have hx0 : wq.cell? ⟨gx, 0, none⟩ = some (.int .i64 x0) := (blk_cell BX.out 0).trans rfl
  have hx1 : wq.cell? ⟨gx, 1, none⟩ = some (.int .i64 x1) := (blk_cell BX.out 1).trans rfl
  have hx2 : wq.cell? ⟨gx, 2, none⟩ = some (.int .i64 x2) := (blk_cell BX.out 2).trans rfl
  have hy0 : wq.cell? ⟨gy, 0, none⟩ = some (.int .i64 y0) := (blk_cell BY.out 0).trans rfl
  have hy1 : wq.cell? ⟨gy, 1, none⟩ = some (.int .i64 y1) := (blk_cell BY.out 1).trans rfl
  have hy2 : wq.cell? ⟨gy, 2, none⟩ = some (.int .i64 y2) := (blk_cell BY.out 2).trans rfl
  go_wp2_with (first | (go_at_call 12; (with_reducible refine (less_ x0 x1 x2 y0 y1 y2 _).mono ?_); rintro e wv ⟨rfl, hb⟩; rw [HXY.out]; clear hx0 hx1 hx2 hy0 hy1 hy2; replace BX := Aside0.mk (blk_below BX.out hb); replace BY := Aside0.mk (blk_below BY.out hb); replace HB := Aside0.mk (below_step HB.out hb); clear hb; have hx0 : wv.cell? ⟨gx, 0, none⟩ = some (.int .i64 x0) := (blk_cell BX.out 0).trans rfl; have hx1 : wv.cell? ⟨gx, 1, none⟩ = some (.int .i64 x1) := (blk_cell BX.out 1).trans rfl; have hx2 : wv.cell? ⟨gx, 2, none⟩ = some (.int .i64 x2) := (blk_cell BX.out 2).trans rfl; have hy0 : wv.cell? ⟨gy, 0, none⟩ = some (.int .i64 y0) := (blk_cell BY.out 0).trans rfl; have hy1 : wv.cell? ⟨gy, 1, none⟩ = some (.int .i64 y1) := (blk_cell BY.out 1).trans rfl; have hy2 : wv.cell? ⟨gy, 2, none⟩ = some (.int .i64 y2) := (blk_cell BY.out 2).trans rfl) | (go_at_call 12; (with_reducible refine (less_ y0 y1 y2 x0 x1 x2 _).mono ?_); rintro e wv ⟨rfl, hb⟩; rw [HYX.out]; clear hx0 hx1 hx2 hy0 hy1 hy2; replace BX := Aside0.mk (blk_below BX.out hb); replace BY := Aside0.mk (blk_below BY.out hb); replace HB := Aside0.mk (below_step HB.out hb); clear hb; have hx0 : wv.cell? ⟨gx, 0, none⟩ = some (.int .i64 x0) := (blk_cell BX.out 0).trans rfl; have hx1 : wv.cell? ⟨gx, 1, none⟩ = some (.int .i64 x1) := (blk_cell BX.out 1).trans rfl; have hx2 : wv.cell? ⟨gx, 2, none⟩ = some (.int .i64 x2) := (blk_cell BX.out 2).trans rfl; have hy0 : wv.cell? ⟨gy, 0, none⟩ = some (.int .i64 y0) := (blk_cell BY.out 0).trans rfl; have hy1 : wv.cell? ⟨gy, 1, none⟩ = some (.int .i64 y1) := (blk_cell BY.out 1).trans rfl; have hy2 : wv.cell? ⟨gy, 2, none⟩ = some (.int .i64 y2) := (blk_cell BY.out 2).trans rfl) | (go_at_call 8; (with_reducible refine (haulierlaw23_HeapOrder.givec k A0 c0 l0 _ HK.out HL0.out (Kd.C_below HR0.out HB.out) HC0.out).mono ?_); rintro e wv ⟨A2, c2, rfl, ho, hb⟩; have HO := Aside0.mk ho; clear BX BY hx0 hx1 hx2 hy0 hy1 hy2; replace HB := Aside0.mk (below_step HB.out hb); clear ho hb) | (go_at_call 7; (with_reducible refine (new_n A2 c2 l0.length (l0.map haulierlaw23_HeapOrder.t) (by simp) (by have := HL0.out; omega) _ (Kd.R_reads' HO.out).2.2).mono ?_); rintro e wn ⟨b, v, rfl, hi, hb⟩; have HB0 := Aside0.mk hb; obtain ⟨ys, HS0, HH⟩ : ∃ ys, Aside0 (HS ys (isort (l0.map haulierlaw23_HeapOrder.t))) ∧ Aside0 (IsH wn wv.heap.size b v ys) := ⟨_, ⟨by have h := HS.new (l0.map haulierlaw23_HeapOrder.t); rw [List.length_map] at h; exact h⟩, ⟨hi⟩⟩; have HYL := Aside0.mk (show ys.length = l0.length by have := HS0.out.len; rw [isort_len, List.length_map] at this; omega); obtain ⟨r1, r2, HDR⟩ : ∃ r1 r2, Aside0 (drainL l0.length ys = (r1, r2)) := ⟨_, _, ⟨rfl⟩⟩; have HR1 := Aside0.mk (show r1 = isort (l0.map haulierlaw23_HeapOrder.t) by have h := (Go.Proofs.Ytojaflnejkbjnaa.Hp9.HS.drain (m := l0.length) HS0.out (by have := HS0.out.len; have := HYL.out; omega)).1; rw [HDR.out] at h; replace h : r1 = _ := h; rw [h, List.take_of_length_le (by have := HS0.out.len; have := HYL.out; omega)]); clear hi hb) | (go_at_call 10; (with_reducible refine (drain_ wv.heap.size b v ys (l0.length : Int) l0.length r1 r2 (by have := HYL.out; have := HL0.out; omega) (by have := HYL.out; omega) HDR.out _ HH.out).mono ?_); rintro e w1 ⟨vo, rfl, ho, hg⟩; have HBZ := Aside0.mk (Goes.base HB0.out HH.out hg (Nat.le_refl _)); obtain ⟨A5, c5, e5⟩ := Kd.R_slice ho; rw [show r1.length = l0.length by rw [HR1.out, isort_len, List.length_map]] at e5; subst e5; obtain ⟨S, L, HSO, HSP, HSL, HLL, HD1, HO1⟩ : ∃ S L : List It, Aside0 (S.Pairwise (fun a b => lt3 b a = false)) ∧ Aside0 (S.Perm L) ∧ Aside0 (S.length = l0.length) ∧ Aside0 (L.length = l0.length) ∧ Aside0 (Kd.C kdi w1 A5 S.length S) ∧ Aside0 (Kd.C kdi w1 A2 L.length L) := ⟨r1, l0.map haulierlaw23_HeapOrder.t, ⟨by rw [HR1.out]; exact (haulierlaw23_HeapOrder.sorted_ _).1⟩, ⟨by rw [HR1.out]; exact (haulierlaw23_HeapOrder.sorted_ _).2⟩, ⟨by rw [HR1.out, isort_len, List.length_map]⟩, ⟨by simp⟩, ⟨(Kd.R_reads' ho).2.2⟩, ⟨Kd.C_below (Kd.R_reads' HO.out).2.2 HBZ.out⟩⟩; have HBW := Aside0.mk (below_step HB.out HBZ.out); have HB1 := Aside0.mk (Below.refl w1.heap.size w1); clear ho hg HH HB0 HBZ HB HR1 HDR HS0 HYL HO))
  clear g1 g2
  go_loopg [63] l0.length (fun kq v63 w' => ∃ i : Nat, v63 = .int .i64 (i : Int) ∧ Aside0 (i ≤ l0.length) ∧ Aside0 (l0.length - i ≤ kq) ∧ Aside0 (Below w1.heap.size w1 w'))
  case atStart => exact ⟨0, rfl, ⟨Nat.zero_le _⟩, ⟨by omega⟩, HB1⟩
  case round =>
    clear HB1
    obtain ⟨i, rfl, HI, HKQ, HB1⟩ := hrel
    by_cases ci : i < l0.length
    · obtain ⟨ad6, e6, hd0, hd1, hd2⟩ := at_H (Kd.C_below HD1.out HB1.out) i (by have := HSL.out; omega)
      subst e6
      obtain ⟨⟨p0, p1_, p2⟩, hp⟩ : ∃ p, ri S i = p := ⟨_, rfl⟩
      rw [hp] at hd0 hd1 hd2
      dsimp only at hd0 hd1 hd2
      have HIN := Aside0.mk ci
      have HPI := Aside0.mk hp
      have r1_ : (0 ≤ (i : Int)) = True := eq_true (by omega)
      have r2_ : ((i : Int) < (l0.length : Int)) = True := eq_true (by omega)
      have HW2 := Aside0.mk (show wrap64 ((i : Int) + 1) = ((i + 1 : Nat) : Int) from haulierlaw23_HeapOrder.w64 i (by have := HL0.out; omega))
      clear hp ci
      by_cases c0_ : i = 0
      · have r3_ : ((i : Int) > 0) = False := eq_false (by omega)
        have r4_ : (0 < (i : Int)) = False := eq_false (by omega)
        have r5_ : (0 < i) = False := eq_false (by omega)
        have r6_ : decide ((i : Int) > 0) = false := decide_eq_false (by omega)
        clear c0_
        go_wp2_with (first | ((with_reducible refine gate_dst (N := 12) rfl ?_); refine box_event ?hg (N := 12) ?hd (cs := #[.int .i64 0, .int .i64 0, .int .i64 0]) (t := 33) ?hr ?_; (case hd => rfl); (case hg => rfl); (case hr => first | (go_simp; done) | (go_simp; rfl)); intro g12 hg_ wv hbox hb; have G12 := Aside0.mk (Nat.le_trans (below_size HB1.out) (Nat.le_of_eq hg_.symm)); have B12 := Aside0.mk hbox; replace HB1 := Aside0.mk (below_step HB1.out hb); clear hbox hg_ hb hd0 hd1 hd2) | ((with_reducible refine gate_store (t := 33) (p := 12) rfl ?_); refine wpList_store_row rfl 33 _ _ rfl g12 #[.int .i64 p0, .int .i64 p1_, .int .i64 p2] rfl rfl 33 #[.int .i64 0, .int .i64 0, .int .i64 0] B12.out (by kernel_rfl) rfl (by first | kernel_rfl | (simp [Value.oneCell']; done) | decide) ?_; replace HB1 := Aside0.mk (below_setRow HB1.out G12.out #[.int .i64 p0, .int .i64 p1_, .int .i64 p2]); replace B12 := Aside0.mk (setRow_heap _ _ _ #[.int .i64 p0, .int .i64 p1_, .int .i64 p2] _ _ B12.out); generalize wv.setRow g12 #[.int .i64 p0, .int .i64 p1_, .int .i64 p2] = wv at HB1 B12 ⊢))
        refine start_ (n := 11) (S := fun w' => True) (ds := []) #[false, false, false, false, false, false, false, false, false, false, false] (by kernel_rfl) rfl rfl trivial (fun hHeld => ?_)
        replace HB1 := Aside0.mk (HB1.out.drew)
        replace B12 := Aside0.mk (show wv.drew.heap[g12]? = _ from B12.out)
        generalize wv.drew = wv at HB1 B12 hHeld ⊢
        refine pure_ (i := 0) (N := some 68) (v := ?_) (a' := ?_) #[true, false, false, false, false, false, false, false, false, false, false] rfl rfl (by kernel_rfl) (fun _ _ _ h => h) (Or.inl ⟨by rfl, ?_⟩) ?_ ?_
        rotate_left
        · intro w'
          go_simp
          with_reducible rfl
        rotate_left
        · simp only [Act.put, List.setIfInBounds_toArray, List.set_cons_zero, List.set_cons_succ, i64_w, i32_w]
          rfl
        refine pure_ (i := 1) (N := some 69) (v := ?_) (a' := ?_) #[true, true, false, false, false, false, false, false, false, false, false] rfl rfl (by kernel_rfl) (fun _ _ _ h => h) (Or.inl ⟨by rfl, ?_⟩) ?_ ?_
        rotate_left
        · intro w'
          go_simp
          with_reducible rfl
        rotate_left
        · simp only [Act.put, List.setIfInBounds_toArray, List.set_cons_zero, List.set_cons_succ, i64_w, i32_w]
          rfl
        refine pure_ (i := 2) (N := some 70) (v := ?_) (a' := ?_) #[true, true, true, false, false, false, false, false, false, false, false] rfl rfl (by kernel_rfl) (fun _ _ _ h => h) (Or.inl ⟨by rfl, ?_⟩) ?_ ?_
        rotate_left
        · intro w'
          go_simp
          with_reducible rfl
        rotate_left
        · simp only [Act.put, List.setIfInBounds_toArray, List.set_cons_zero, List.set_cons_succ, i64_w, i32_w]
          rfl
        refine pure_ (i := 3) (N := some 71) (v := undef) (a' := ?_) #[true, true, true, true, false, false, false, false, false, false, false] rfl rfl (by kernel_rfl) (fun _ _ _ h => h) (Or.inr ⟨by rfl, rfl⟩) ?_ ?_
        rotate_left
        · simp only [Act.put, List.setIfInBounds_toArray, List.set_cons_zero, List.set_cons_succ, i64_w, i32_w]
          rfl
        refine pure_ (i := 4) (N := some 72) (v := undef) (a' := ?_) #[true, true, true, true, true, false, false, false, false, false, false] rfl rfl (by kernel_rfl) (fun _ _ _ h => h) (Or.inr ⟨by rfl, rfl⟩) ?_ ?_
        rotate_left
        · simp only [Act.put, List.setIfInBounds_toArray, List.set_cons_zero, List.set_cons_succ, i64_w, i32_w]
          rfl
        refine pure_ (i := 5) (N := some 73) (v := undef) (a' := ?_) #[true, true, true, true, true, true, false, false, false, false, false] rfl rfl (by kernel_rfl) (fun _ _ _ h => h) (Or.inr ⟨by rfl, rfl⟩) ?_ ?_
        rotate_left
        · simp only [Act.put, List.setIfInBounds_toArray, List.set_cons_zero, List.set_cons_succ, i64_w, i32_w]
          rfl
        refine pure_ (i := 6) (N := some 74) (v := undef) (a' := ?_) #[true, true, true, true, true, true, true, false, false, false, false] rfl rfl (by kernel_rfl) (fun _ _ _ h => h) (Or.inr ⟨by rfl, rfl⟩) ?_ ?_
        rotate_left
        · simp only [Act.put, List.setIfInBounds_toArray, List.set_cons_zero, List.set_cons_succ, i64_w, i32_w]
          rfl
        refine pure_ (i := 7) (N := some 75) (v := undef) (a' := ?_) #[true, true, true, true, true, true, true, true, false, false, false] rfl rfl (by kernel_rfl) (fun _ _ _ h => h) (Or.inr ⟨by rfl, rfl⟩) ?_ ?_
        rotate_left
        · simp only [Act.put, List.setIfInBounds_toArray, List.set_cons_zero, List.set_cons_succ, i64_w, i32_w]
          rfl
        refine pure_ (i := 8) (N := some 76) (v := undef) (a' := ?_) #[true, true, true, true, true, true, true, true, true, false, false] rfl rfl (by kernel_rfl) (fun _ _ _ h => h) (Or.inr ⟨by rfl, rfl⟩) ?_ ?_
        rotate_left
        · simp only [Act.put, List.setIfInBounds_toArray, List.set_cons_zero, List.set_cons_succ, i64_w, i32_w]
          rfl
        refine pure_ (i := 9) (N := some 77) (v := undef) (a' := ?_) #[true, true, true, true, true, true, true, true, true, true, false] rfl rfl (by kernel_rfl) (fun _ _ _ h => h) (Or.inr ⟨by rfl, rfl⟩) ?_ ?_
        rotate_left
        · simp only [Act.put, List.setIfInBounds_toArray, List.set_cons_zero, List.set_cons_succ, i64_w, i32_w]
          rfl
        refine pure_ (i := 10) (N := some 78) (v := ?_) (a' := ?_) #[true, true, true, true, true, true, true, true, true, true, true] rfl rfl (by kernel_rfl) (fun _ _ _ h => h) (Or.inl ⟨by rfl, ?_⟩) ?_ ?_
        rotate_left
        · intro w'
          go_simp
          with_reducible rfl
        rotate_left
        · simp only [Act.put, List.setIfInBounds_toArray, List.set_cons_zero, List.set_cons_succ, i64_w, i32_w]
          rfl
        refine done_ (by kernel_rfl) ?_
        (try go_wp2)
        go_loopg [13, 81] l0.length (fun kq v13 v81 w' => ∃ (j : Nat) (z : Int), v81 = .int .i64 (j : Int) ∧ v13 = .int .i64 z ∧ Aside0 (j ≤ l0.length) ∧ Aside0 (l0.length - j ≤ kq) ∧ Aside0 (z = (((S.take j).count (p0, p1_, p2) : Nat) : Int)) ∧ Aside0 (w'.heap[g12]? = some (.cells #[.int .i64 p0, .int .i64 p1_, .int .i64 p2] 33 (0, 0))) ∧ Aside0 (Below w1.heap.size w1 w'))
        case atStart => exact ⟨0, 0, rfl, rfl, ⟨Nat.zero_le _⟩, ⟨by omega⟩, ⟨by simp⟩, B12, HB1⟩
        case round =>
          clear HB1 B12
          obtain ⟨j, z, rfl, rfl, HJ, HJQ, HZ, B12, HB1⟩ := hrel
          by_cases cj : j < l0.length
          · obtain ⟨ad7, e7, hq0, hq1, hq2⟩ := at_H (Kd.C_below HD1.out HB1.out) j (by have := HSL.out; omega)
            cases e7
            have HJL := Aside0.mk cj
            have r1_ : (0 ≤ (j : Int)) = True := eq_true (by omega)
            have r2_ : ((j : Int) < (l0.length : Int)) = True := eq_true (by omega)
            have HWJ := Aside0.mk (show wrap64 ((j : Int) + 1) = ((j + 1 : Nat) : Int) from haulierlaw23_HeapOrder.w64 j (by have := HL0.out; omega))
            have hzb : -100 ≤ z ∧ z ≤ 100 := by
              have h1 := HZ.out
              have h2 : (S.take j).count (p0, p1_, p2) ≤ (S.take j).length := List.count_le_length
              have h3 : S.count (p0, p1_, p2) ≤ S.length := List.count_le_length
              rw [List.length_take] at h2
              have := HSL.out
              have := HL0.out
              omega
            clear cj
            by_cases e : ri S j = (p0, p1_, p2)
            · rw [e] at hq0 hq1 hq2
              dsimp only at hq0 hq1 hq2
              have hcn := haulierlaw23_HeapOrder.cnt_y (S := S) (j := j) (by have := HJL.out; have := HSL.out; omega) e
              have heq : ∀ w, (binOp .eql 33 (.agg #[.int .i64 p0, .int .i64 p1_, .int .i64 p2]) (.agg #[.int .i64 p0, .int .i64 p1_, .int .i64 p2])).run Try.prog w = .ok (.bool true) w := fun w => haulierlaw23_HeapOrder.eq33 w p0 p1_ p2
              have hw1 : wrap64 (z + 1) = z + 1 := by unfold wrap64; omega
              have HZN := Aside0.mk (show (z + 1 = (((S.take (j + 1)).count (p0, p1_, p2) : Nat) : Int)) by rw [hcn]; have := HZ.out; omega)
              clear hcn e hzb
              go_wp2_with (first | ((with_reducible refine gate_dst (N := 15) rfl ?_); refine box_event ?hg (N := 15) ?hd (cs := #[.int .i64 0, .int .i64 0, .int .i64 0]) (t := 33) ?hr ?_; (case hd => rfl); (case hg => rfl); (case hr => first | (go_simp; done) | (go_simp; rfl)); intro g15 hg_ wv hbox hb; have G15 := Aside0.mk (Nat.le_trans (below_size HB1.out) (Nat.le_of_eq hg_.symm)); have D15 := Aside0.mk (show g12 ≠ g15 by have := blk_lt B12.out; omega); replace B12 := Aside0.mk (blk_below B12.out hb); have B15 := Aside0.mk hbox; replace HB1 := Aside0.mk (below_step HB1.out hb); clear hbox hg_ hb hq0 hq1 hq2) | ((with_reducible refine gate_store (t := 33) (p := 15) rfl ?_); refine wpList_store_row rfl 33 _ _ rfl g15 #[.int .i64 p0, .int .i64 p1_, .int .i64 p2] rfl rfl 33 #[.int .i64 0, .int .i64 0, .int .i64 0] B15.out (by kernel_rfl) rfl (by first | kernel_rfl | (simp [Value.oneCell']; done) | decide) ?_; replace HB1 := Aside0.mk (below_setRow HB1.out G15.out #[.int .i64 p0, .int .i64 p1_, .int .i64 p2]); replace B12 := Aside0.mk ((setRow_other _ _ _ #[.int .i64 p0, .int .i64 p1_, .int .i64 p2] D15.out).trans B12.out); replace B15 := Aside0.mk (setRow_heap _ _ _ #[.int .i64 p0, .int .i64 p1_, .int .i64 p2] _ _ B15.out); generalize wv.setRow g15 #[.int .i64 p0, .int .i64 p1_, .int .i64 p2] = wv at HB1 B12 B15 ⊢) | ((with_reducible refine gate_dst (N := 85) rfl ?_); refine wpList_load_row rfl 33 (.tmp 15) rfl g15 rfl 33 #[.int .i64 p0, .int .i64 p1_, .int .i64 p2] (0, 0) _ B15.out Try.underlying33 rfl (by kernel_rfl) ?_) | ((with_reducible refine gate_dst (N := 86) rfl ?_); refine wpList_load_row rfl 33 (.tmp 12) rfl g12 rfl 33 #[.int .i64 p0, .int .i64 p1_, .int .i64 p2] (0, 0) _ B12.out Try.underlying33 rfl (by kernel_rfl) ?_))
              go_roundg (l0.length - (j + 1))
              case measure => have := HJQ.out; have := HJL.out; omega
              case rel => exact ⟨j + 1, z + 1, by first | rfl | rw [HWJ.out], by first | rfl | rw [hw1], ⟨by have := HJL.out; omega⟩, ⟨by omega⟩, HZN, B12, HB1⟩
            · have hcn := haulierlaw23_HeapOrder.cnt_n (S := S) (j := j) (by have := HJL.out; have := HSL.out; omega) e
              obtain ⟨⟨q0, q1, q2⟩, hq⟩ : ∃ q, ri S j = q := ⟨_, rfl⟩
              rw [hq] at hq0 hq1 hq2 e
              dsimp only at hq0 hq1 hq2
              have heq : ∀ w, (binOp .eql 33 (.agg #[.int .i64 q0, .int .i64 q1, .int .i64 q2]) (.agg #[.int .i64 p0, .int .i64 p1_, .int .i64 p2])).run Try.prog w = .ok (.bool false) w := fun w => haulierlaw23_HeapOrder.no33 w q0 q1 q2 p0 p1_ p2 e
              have HZN := Aside0.mk (show (z = (((S.take (j + 1)).count (p0, p1_, p2) : Nat) : Int)) by rw [hcn]; exact HZ.out)
              clear hcn e hzb hq
              go_wp2_with (first | ((with_reducible refine gate_dst (N := 15) rfl ?_); refine box_event ?hg (N := 15) ?hd (cs := #[.int .i64 0, .int .i64 0, .int .i64 0]) (t := 33) ?hr ?_; (case hd => rfl); (case hg => rfl); (case hr => first | (go_simp; done) | (go_simp; rfl)); intro g15 hg_ wv hbox hb; have G15 := Aside0.mk (Nat.le_trans (below_size HB1.out) (Nat.le_of_eq hg_.symm)); have D15 := Aside0.mk (show g12 ≠ g15 by have := blk_lt B12.out; omega); replace B12 := Aside0.mk (blk_below B12.out hb); have B15 := Aside0.mk hbox; replace HB1 := Aside0.mk (below_step HB1.out hb); clear hbox hg_ hb hq0 hq1 hq2) | ((with_reducible refine gate_store (t := 33) (p := 15) rfl ?_); refine wpList_store_row rfl 33 _ _ rfl g15 #[.int .i64 q0, .int .i64 q1, .int .i64 q2] rfl rfl 33 #[.int .i64 0, .int .i64 0, .int .i64 0] B15.out (by kernel_rfl) rfl (by first | kernel_rfl | (simp [Value.oneCell']; done) | decide) ?_; replace HB1 := Aside0.mk (below_setRow HB1.out G15.out #[.int .i64 q0, .int .i64 q1, .int .i64 q2]); replace B12 := Aside0.mk ((setRow_other _ _ _ #[.int .i64 q0, .int .i64 q1, .int .i64 q2] D15.out).trans B12.out); replace B15 := Aside0.mk (setRow_heap _ _ _ #[.int .i64 q0, .int .i64 q1, .int .i64 q2] _ _ B15.out); generalize wv.setRow g15 #[.int .i64 q0, .int .i64 q1, .int .i64 q2] = wv at HB1 B12 B15 ⊢) | ((with_reducible refine gate_dst (N := 85) rfl ?_); refine wpList_load_row rfl 33 (.tmp 15) rfl g15 rfl 33 #[.int .i64 q0, .int .i64 q1, .int .i64 q2] (0, 0) _ B15.out Try.underlying33 rfl (by kernel_rfl) ?_) | ((with_reducible refine gate_dst (N := 86) rfl ?_); refine wpList_load_row rfl 33 (.tmp 12) rfl g12 rfl 33 #[.int .i64 p0, .int .i64 p1_, .int .i64 p2] (0, 0) _ B12.out Try.underlying33 rfl (by kernel_rfl) ?_))
              go_roundg (l0.length - (j + 1))
              case measure => have := HJQ.out; have := HJL.out; omega
              case rel => exact ⟨j + 1, z, by first | rfl | rw [HWJ.out], rfl, ⟨by have := HJL.out; omega⟩, ⟨by omega⟩, HZN, B12, HB1⟩
          · obtain rfl : j = l0.length := by have := HJ.out; omega
            have hz := HZ.out
            rw [List.take_of_length_le (by have := HSL.out; omega)] at hz
            have HZS := Aside0.mk hz
            clear cj hz HZ
            (try go_wp2)
            go_loopg [13, 93] l0.length (fun kq v13 v93 w' => ∃ (j : Nat) (z : Int), v93 = .int .i64 (j : Int) ∧ v13 = .int .i64 z ∧ Aside0 (j ≤ l0.length) ∧ Aside0 (l0.length - j ≤ kq) ∧ Aside0 (z = ((S.count (p0, p1_, p2) : Nat) : Int) - (((L.take j).count (p0, p1_, p2) : Nat) : Int)) ∧ Aside0 (w'.heap[g12]? = some (.cells #[.int .i64 p0, .int .i64 p1_, .int .i64 p2] 33 (0, 0))) ∧ Aside0 (Below w1.heap.size w1 w'))
            case atStart => exact ⟨0, _, rfl, rfl, ⟨Nat.zero_le _⟩, ⟨by omega⟩, ⟨by rw [HZS.out]; simp⟩, B12, HB1⟩
            case round =>
              clear HB1 B12
              obtain ⟨j, z, rfl, rfl, HJ, HJQ, HZ, B12, HB1⟩ := hrel
              by_cases cj : j < l0.length
              · obtain ⟨ad7, e7, hq0, hq1, hq2⟩ := at_H (Kd.C_below HO1.out HB1.out) j (by have := HLL.out; omega)
                cases e7
                have HJL := Aside0.mk cj
                have r1_ : (0 ≤ (j : Int)) = True := eq_true (by omega)
                have r2_ : ((j : Int) < (l0.length : Int)) = True := eq_true (by omega)
                have HWJ := Aside0.mk (show wrap64 ((j : Int) + 1) = ((j + 1 : Nat) : Int) from haulierlaw23_HeapOrder.w64 j (by have := HL0.out; omega))
                have hzb : -100 ≤ z ∧ z ≤ 100 := by
                  have h1 := HZ.out
                  have h2 : (L.take j).count (p0, p1_, p2) ≤ (L.take j).length := List.count_le_length
                  have h3 : S.count (p0, p1_, p2) ≤ S.length := List.count_le_length
                  rw [List.length_take] at h2
                  have := HSL.out
                  have := HL0.out
                  omega
                clear cj
                by_cases e : ri L j = (p0, p1_, p2)
                · rw [e] at hq0 hq1 hq2
                  dsimp only at hq0 hq1 hq2
                  have hcn := haulierlaw23_HeapOrder.cnt_y (S := L) (j := j) (by have := HJL.out; have := HLL.out; omega) e
                  have heq : ∀ w, (binOp .eql 33 (.agg #[.int .i64 p0, .int .i64 p1_, .int .i64 p2]) (.agg #[.int .i64 p0, .int .i64 p1_, .int .i64 p2])).run Try.prog w = .ok (.bool true) w := fun w => haulierlaw23_HeapOrder.eq33 w p0 p1_ p2
                  have hw1 : wrap64 (z - 1) = z - 1 := by unfold wrap64; omega
                  have HZN := Aside0.mk (show (z - 1 = ((S.count (p0, p1_, p2) : Nat) : Int) - (((L.take (j + 1)).count (p0, p1_, p2) : Nat) : Int)) by rw [hcn]; have := HZ.out; omega)
                  clear hcn e hzb
                  go_wp2_with (first | ((with_reducible refine gate_dst (N := 17) rfl ?_); refine box_event ?hg (N := 17) ?hd (cs := #[.int .i64 0, .int .i64 0, .int .i64 0]) (t := 33) ?hr ?_; (case hd => rfl); (case hg => rfl); (case hr => first | (go_simp; done) | (go_simp; rfl)); intro g17 hg_ wv hbox hb; have G17 := Aside0.mk (Nat.le_trans (below_size HB1.out) (Nat.le_of_eq hg_.symm)); have D17 := Aside0.mk (show g12 ≠ g17 by have := blk_lt B12.out; omega); replace B12 := Aside0.mk (blk_below B12.out hb); have B17 := Aside0.mk hbox; replace HB1 := Aside0.mk (below_step HB1.out hb); clear hbox hg_ hb hq0 hq1 hq2) | ((with_reducible refine gate_store (t := 33) (p := 17) rfl ?_); refine wpList_store_row rfl 33 _ _ rfl g17 #[.int .i64 p0, .int .i64 p1_, .int .i64 p2] rfl rfl 33 #[.int .i64 0, .int .i64 0, .int .i64 0] B17.out (by kernel_rfl) rfl (by first | kernel_rfl | (simp [Value.oneCell']; done) | decide) ?_; replace HB1 := Aside0.mk (below_setRow HB1.out G17.out #[.int .i64 p0, .int .i64 p1_, .int .i64 p2]); replace B12 := Aside0.mk ((setRow_other _ _ _ #[.int .i64 p0, .int .i64 p1_, .int .i64 p2] D17.out).trans B12.out); replace B17 := Aside0.mk (setRow_heap _ _ _ #[.int .i64 p0, .int .i64 p1_, .int .i64 p2] _ _ B17.out); generalize wv.setRow g17 #[.int .i64 p0, .int .i64 p1_, .int .i64 p2] = wv at HB1 B12 B17 ⊢) | ((with_reducible refine gate_dst (N := 97) rfl ?_); refine wpList_load_row rfl 33 (.tmp 17) rfl g17 rfl 33 #[.int .i64 p0, .int .i64 p1_, .int .i64 p2] (0, 0) _ B17.out Try.underlying33 rfl (by kernel_rfl) ?_) | ((with_reducible refine gate_dst (N := 98) rfl ?_); refine wpList_load_row rfl 33 (.tmp 12) rfl g12 rfl 33 #[.int .i64 p0, .int .i64 p1_, .int .i64 p2] (0, 0) _ B12.out Try.underlying33 rfl (by kernel_rfl) ?_))
                  go_roundg (l0.length - (j + 1))
                  case measure => have := HJQ.out; have := HJL.out; omega
                  case rel => exact ⟨j + 1, z - 1, by first | rfl | rw [HWJ.out], by first | rfl | rw [hw1], ⟨by have := HJL.out; omega⟩, ⟨by omega⟩, HZN, B12, HB1⟩
                · have hcn := haulierlaw23_HeapOrder.cnt_n (S := L) (j := j) (by have := HJL.out; have := HLL.out; omega) e
                  obtain ⟨⟨q0, q1, q2⟩, hq⟩ : ∃ q, ri L j = q := ⟨_, rfl⟩
                  rw [hq] at hq0 hq1 hq2 e
                  dsimp only at hq0 hq1 hq2
                  have heq : ∀ w, (binOp .eql 33 (.agg #[.int .i64 q0, .int .i64 q1, .int .i64 q2]) (.agg #[.int .i64 p0, .int .i64 p1_, .int .i64 p2])).run Try.prog w = .ok (.bool false) w := fun w => haulierlaw23_HeapOrder.no33 w q0 q1 q2 p0 p1_ p2 e
                  have HZN := Aside0.mk (show (z = ((S.count (p0, p1_, p2) : Nat) : Int) - (((L.take (j + 1)).count (p0, p1_, p2) : Nat) : Int)) by rw [hcn]; exact HZ.out)
                  clear hcn e hzb hq
                  go_wp2_with (first | ((with_reducible refine gate_dst (N := 17) rfl ?_); refine box_event ?hg (N := 17) ?hd (cs := #[.int .i64 0, .int .i64 0, .int .i64 0]) (t := 33) ?hr ?_; (case hd => rfl); (case hg => rfl); (case hr => first | (go_simp; done) | (go_simp; rfl)); intro g17 hg_ wv hbox hb; have G17 := Aside0.mk (Nat.le_trans (below_size HB1.out) (Nat.le_of_eq hg_.symm)); have D17 := Aside0.mk (show g12 ≠ g17 by have := blk_lt B12.out; omega); replace B12 := Aside0.mk (blk_below B12.out hb); have B17 := Aside0.mk hbox; replace HB1 := Aside0.mk (below_step HB1.out hb); clear hbox hg_ hb hq0 hq1 hq2) | ((with_reducible refine gate_store (t := 33) (p := 17) rfl ?_); refine wpList_store_row rfl 33 _ _ rfl g17 #[.int .i64 q0, .int .i64 q1, .int .i64 q2] rfl rfl 33 #[.int .i64 0, .int .i64 0, .int .i64 0] B17.out (by kernel_rfl) rfl (by first | kernel_rfl | (simp [Value.oneCell']; done) | decide) ?_; replace HB1 := Aside0.mk (below_setRow HB1.out G17.out #[.int .i64 q0, .int .i64 q1, .int .i64 q2]); replace B12 := Aside0.mk ((setRow_other _ _ _ #[.int .i64 q0, .int .i64 q1, .int .i64 q2] D17.out).trans B12.out); replace B17 := Aside0.mk (setRow_heap _ _ _ #[.int .i64 q0, .int .i64 q1, .int .i64 q2] _ _ B17.out); generalize wv.setRow g17 #[.int .i64 q0, .int .i64 q1, .int .i64 q2] = wv at HB1 B12 B17 ⊢) | ((with_reducible refine gate_dst (N := 97) rfl ?_); refine wpList_load_row rfl 33 (.tmp 17) rfl g17 rfl 33 #[.int .i64 q0, .int .i64 q1, .int .i64 q2] (0, 0) _ B17.out Try.underlying33 rfl (by kernel_rfl) ?_) | ((with_reducible refine gate_dst (N := 98) rfl ?_); refine wpList_load_row rfl 33 (.tmp 12) rfl g12 rfl 33 #[.int .i64 p0, .int .i64 p1_, .int .i64 p2] (0, 0) _ B12.out Try.underlying33 rfl (by kernel_rfl) ?_))
                  go_roundg (l0.length - (j + 1))
                  case measure => have := HJQ.out; have := HJL.out; omega
                  case rel => exact ⟨j + 1, z, by first | rfl | rw [HWJ.out], rfl, ⟨by have := HJL.out; omega⟩, ⟨by omega⟩, HZN, B12, HB1⟩
              · obtain rfl : j = l0.length := by have := HJ.out; omega
                have hz := HZ.out
                rw [List.take_of_length_le (by have := HLL.out; omega)] at hz
                rw [HSP.out.count_eq, Int.sub_self] at hz
                subst hz
                clear cj HZ HZS
                (try go_wp2)
                go_roundg (l0.length - (i + 1))
                case measure => have := HKQ.out; have := HIN.out; omega
                case rel => exact ⟨i + 1, by first | rfl | rw [HW2.out], ⟨by have := HIN.out; omega⟩, ⟨by omega⟩, HB1⟩
      · obtain ⟨h, hh⟩ : ∃ h, i = h + 1 := ⟨i - 1, by omega⟩
        have r3_ : ((i : Int) > 0) = True := eq_true (by omega)
        have r4_ : (0 < (i : Int)) = True := eq_true (by omega)
        have r7_ : (0 < i) = True := eq_true (by omega)
        have r8_ : decide ((i : Int) > 0) = true := decide_eq_true (by omega)
        obtain ⟨ad6_, e6_, hs0, hs1, hs2⟩ := at_H HD1.out h (by have := HSL.out; have := HIN.out; omega)
        obtain rfl : ad6 = ad6_ := Option.some.inj e6_
        obtain ⟨⟨s0, s1, s2⟩, hs⟩ : ∃ s, ri S h = s := ⟨_, rfl⟩
        have HLT := Aside0.mk (show lt3 (p0, p1_, p2) (s0, s1, s2) = false by rw [← HPI.out, ← hs]; exact haulierlaw23_HeapOrder.at_sorted HSO.out (by omega) (by have := HSL.out; have := HIN.out; omega))
        rw [hs] at hs0 hs1 hs2
        dsimp only at hs0 hs1 hs2
        have hwi : wrap64 ((i : Int) - 1) = (h : Int) := by have := HL0.out; have := HIN.out; unfold wrap64; omega
        have r5_ : (0 ≤ (h : Int)) = True := eq_true (by omega)
        have r6_ : ((h : Int) < (l0.length : Int)) = True := eq_true (by have := HIN.out; omega)
        clear c0_ hs hh e6_
        go_wp2_with (first | ((with_reducible refine gate_dst (N := 12) rfl ?_); refine box_event ?hg (N := 12) ?hd (cs := #[.int .i64 0, .int .i64 0, .int .i64 0]) (t := 33) ?hr ?_; (case hd => rfl); (case hg => rfl); (case hr => first | (go_simp; done) | (go_simp; rfl)); intro g12 hg_ wv hbox hb; have G12 := Aside0.mk (Nat.le_trans (below_size HB1.out) (Nat.le_of_eq hg_.symm)); have B12 := Aside0.mk hbox; replace HB1 := Aside0.mk (below_step HB1.out hb); clear hbox hg_ hb hd0 hd1 hd2) | ((with_reducible refine gate_store (t := 33) (p := 12) rfl ?_); refine wpList_store_row rfl 33 _ _ rfl g12 #[.int .i64 p0, .int .i64 p1_, .int .i64 p2] rfl rfl 33 #[.int .i64 0, .int .i64 0, .int .i64 0] B12.out (by kernel_rfl) rfl (by first | kernel_rfl | (simp [Value.oneCell']; done) | decide) ?_; replace HB1 := Aside0.mk (below_setRow HB1.out G12.out #[.int .i64 p0, .int .i64 p1_, .int .i64 p2]); replace B12 := Aside0.mk (setRow_heap _ _ _ #[.int .i64 p0, .int .i64 p1_, .int .i64 p2] _ _ B12.out); generalize wv.setRow g12 #[.int .i64 p0, .int .i64 p1_, .int .i64 p2] = wv at HB1 B12 ⊢))
        refine start_ (n := 11) (S := fun w' => w'.cell? ⟨g12, 0, none⟩ = some (.int .i64 p0) ∧ w'.cell? ⟨g12, 1, none⟩ = some (.int .i64 p1_) ∧ w'.cell? ⟨g12, 2, none⟩ = some (.int .i64 p2) ∧ w'.cell? (ad6.add (h * 3)) = some (.int .i64 s0) ∧ w'.cell? ⟨(ad6.add (h * 3)).block, (ad6.add (h * 3)).off + 1, none⟩ = some (.int .i64 s1) ∧ w'.cell? ⟨(ad6.add (h * 3)).block, (ad6.add (h * 3)).off + 2, none⟩ = some (.int .i64 s2)) (ds := []) #[false, false, false, false, false, false, false, false, false, false, false] (by kernel_rfl) rfl rfl ⟨(blk_cell B12.out 0).trans rfl, (blk_cell B12.out 1).trans rfl, (blk_cell B12.out 2).trans rfl, ((HB1.out.cell (World.block_lt_of_cell? w1 _ hs0)).trans hs0), ((HB1.out.cell (World.block_lt_of_cell? w1 _ hs1)).trans hs1), ((HB1.out.cell (World.block_lt_of_cell? w1 _ hs2)).trans hs2)⟩ (fun hHeld => ?_)
        replace HB1 := Aside0.mk (HB1.out.drew)
        replace B12 := Aside0.mk (show wv.drew.heap[g12]? = _ from B12.out)
        generalize wv.drew = wv at HB1 B12 hHeld ⊢
        refine pure_ (i := 0) (N := some 68) (v := ?_) (a' := ?_) #[true, false, false, false, false, false, false, false, false, false, false] rfl rfl (by kernel_rfl) (fun _ _ _ h => h) (Or.inl ⟨by rfl, ?_⟩) ?_ ?_
        rotate_left
        · intro w'
          go_simp
          with_reducible rfl
        rotate_left
        · simp only [Act.put, List.setIfInBounds_toArray, List.set_cons_zero, List.set_cons_succ, i64_w, i32_w]
          rfl
        refine pure_ (i := 1) (N := some 69) (v := ?_) (a' := ?_) #[true, true, false, false, false, false, false, false, false, false, false] rfl rfl (by kernel_rfl) (fun _ _ _ h => h) (Or.inl ⟨by rfl, ?_⟩) ?_ ?_
        rotate_left
        · intro w'
          go_simp
          with_reducible rfl
        rotate_left
        · simp only [Act.put, List.setIfInBounds_toArray, List.set_cons_zero, List.set_cons_succ, i64_w, i32_w]
          rfl
        refine pure_ (i := 2) (N := some 70) (v := ?_) (a' := ?_) #[true, true, true, false, false, false, false, false, false, false, false] rfl rfl (by kernel_rfl) (fun _ _ _ h => h) (Or.inl ⟨by rfl, ?_⟩) ?_ ?_
        rotate_left
        · intro w'
          go_simp
          with_reducible rfl
        rotate_left
        · simp only [Act.put, List.setIfInBounds_toArray, List.set_cons_zero, List.set_cons_succ, i64_w, i32_w]
          rfl
        refine pure_ (i := 4) (N := some 72) (v := ?_) (a' := ?_) #[true, true, true, false, true, false, false, false, false, false, false] rfl rfl (by kernel_rfl) (fun _ _ _ h => h) (Or.inl ⟨by rfl, ?_⟩) ?_ ?_
        rotate_left
        · intro w'
          go_simp
          with_reducible rfl
        rotate_left
        · simp only [Act.put, List.setIfInBounds_toArray, List.set_cons_zero, List.set_cons_succ, i64_w, i32_w]
          rfl
        refine pure_ (i := 5) (N := some 73) (v := ?_) (a' := ?_) #[true, true, true, false, true, true, false, false, false, false, false] rfl rfl (by kernel_rfl) (fun _ _ _ h => h) (Or.inl ⟨by rfl, ?_⟩) ?_ ?_
        rotate_left
        · intro w'
          go_simp
          with_reducible rfl
        rotate_left
        · simp only [Act.put, List.setIfInBounds_toArray, List.set_cons_zero, List.set_cons_succ, i64_w, i32_w]
          rfl
        refine pure_ (i := 6) (N := some 74) (v := ?_) (a' := ?_) #[true, true, true, false, true, true, true, false, false, false, false] rfl rfl (by kernel_rfl) (fun _ _ _ h => h) (Or.inl ⟨by rfl, ?_⟩) ?_ ?_
        rotate_left
        · intro w'
          go_simp
          with_reducible rfl
        rotate_left
        · simp only [Act.put, List.setIfInBounds_toArray, List.set_cons_zero, List.set_cons_succ, i64_w, i32_w]
          rfl
        refine pure_ (i := 7) (N := some 75) (v := ?_) (a' := ?_) #[true, true, true, false, true, true, true, true, false, false, false] rfl rfl (by kernel_rfl) (fun _ _ _ h => h) (Or.inl ⟨by rfl, ?_⟩) ?_ ?_
        rotate_left
        · intro w'
          go_simp
          with_reducible rfl
        rotate_left
        · simp only [Act.put, List.setIfInBounds_toArray, List.set_cons_zero, List.set_cons_succ, i64_w, i32_w]
          rfl
        refine take_ (i := 3) (N := some 71) (v := ?_) (a' := ?_) #[true, true, true, true, true, true, true, true, false, false, false] rfl rfl (by kernel_rfl) (fun _ _ _ h => h) (Or.inl ⟨by rfl, ?_⟩) hHeld ?_ ?_
        rotate_left
        · rintro w' ⟨s0, s1, s2, s3, s4, s5⟩
          go_simp
          with_reducible rfl
        rotate_left
        · simp only [Act.put, List.setIfInBounds_toArray, List.set_cons_zero, List.set_cons_succ, i64_w, i32_w]
          rfl
        refine take_ (i := 8) (N := some 76) (v := ?_) (a' := ?_) #[true, true, true, true, true, true, true, true, true, false, false] rfl rfl (by kernel_rfl) (fun _ _ _ h => h) (Or.inl ⟨by rfl, ?_⟩) hHeld ?_ ?_
        rotate_left
        · rintro w' ⟨s0, s1, s2, s3, s4, s5⟩
          go_simp
          with_reducible rfl
        rotate_left
        · simp only [Act.put, List.setIfInBounds_toArray, List.set_cons_zero, List.set_cons_succ, i64_w, i32_w]
          rfl
        refine one_ (i := 9) (N := some 77) #[true, true, true, true, true, true, true, true, true, true, false] rfl rfl (by kernel_rfl) (by decide) (fun K hK => ?_)
        refine goes_ Try.func12 (by kernel_rfl) rfl #[.agg #[.int .i64 p0, .int .i64 p1_, .int .i64 p2], .agg #[.int .i64 s0, .int .i64 s1, .int .i64 s2]] (by rfl) rfl rfl (by first | rfl | (simp only [List.map_toArray, List.map_cons, List.map_nil]; rfl)) ?_
        with_reducible refine (less_ p0 p1_ p2 s0 s1 s2 _).mono ?_
        rintro e wv ⟨rfl, hb⟩
        rw [HLT.out]
        replace B12 := Aside0.mk (blk_below B12.out hb)
        replace HB1 := Aside0.mk (below_step HB1.out hb)
        clear hb
        refine ⟨_, rfl, ?_⟩
        refine hK.out _ _ ⟨(blk_cell B12.out 0).trans rfl, (blk_cell B12.out 1).trans rfl, (blk_cell B12.out 2).trans rfl, ((HB1.out.cell (World.block_lt_of_cell? w1 _ hs0)).trans hs0), ((HB1.out.cell (World.block_lt_of_cell? w1 _ hs1)).trans hs1), ((HB1.out.cell (World.block_lt_of_cell? w1 _ hs2)).trans hs2)⟩ (fun hHeld => ?_)
        clear hK K
        refine norm_ (a' := ?_) ?_ ?_
        rotate_left
        · show Act.put _ (some 77) _ = _
          simp only [Act.put, List.setIfInBounds_toArray, List.set_cons_zero, List.set_cons_succ, i64_w, i32_w]
          rfl
        refine pure_ (i := 10) (N := some 78) (v := ?_) (a' := ?_) #[true, true, true, true, true, true, true, true, true, true, true] rfl rfl (by kernel_rfl) (fun _ _ _ h => h) (Or.inl ⟨by rfl, ?_⟩) ?_ ?_
        rotate_left
        · intro w'
          go_simp
          with_reducible rfl
        rotate_left
        · simp only [Act.put, List.setIfInBounds_toArray, List.set_cons_zero, List.set_cons_succ, i64_w, i32_w]
          rfl
        refine done_ (by kernel_rfl) ?_
        clear hwi
        (try go_wp2)
        go_loopg [13, 81] l0.length (fun kq v13 v81 w' => ∃ (j : Nat) (z : Int), v81 = .int .i64 (j : Int) ∧ v13 = .int .i64 z ∧ Aside0 (j ≤ l0.length) ∧ Aside0 (l0.length - j ≤ kq) ∧ Aside0 (z = (((S.take j).count (p0, p1_, p2) : Nat) : Int)) ∧ Aside0 (w'.heap[g12]? = some (.cells #[.int .i64 p0, .int .i64 p1_, .int .i64 p2] 33 (0, 0))) ∧ Aside0 (Below w1.heap.size w1 w'))
        case atStart => exact ⟨0, 0, rfl, rfl, ⟨Nat.zero_le _⟩, ⟨by omega⟩, ⟨by simp⟩, B12, HB1⟩
        case round =>
          clear HB1 B12
          obtain ⟨j, z, rfl, rfl, HJ, HJQ, HZ, B12, HB1⟩ := hrel
          by_cases cj : j < l0.length
          · obtain ⟨ad7, e7, hq0, hq1, hq2⟩ := at_H (Kd.C_below HD1.out HB1.out) j (by have := HSL.out; omega)
            cases e7
            have HJL := Aside0.mk cj
            have r1_ : (0 ≤ (j : Int)) = True := eq_true (by omega)
            have r2_ : ((j : Int) < (l0.length : Int)) = True := eq_true (by omega)
            have HWJ := Aside0.mk (show wrap64 ((j : Int) + 1) = ((j + 1 : Nat) : Int) from haulierlaw23_HeapOrder.w64 j (by have := HL0.out; omega))
            have hzb : -100 ≤ z ∧ z ≤ 100 := by
              have h1 := HZ.out
              have h2 : (S.take j).count (p0, p1_, p2) ≤ (S.take j).length := List.count_le_length
              have h3 : S.count (p0, p1_, p2) ≤ S.length := List.count_le_length
              rw [List.length_take] at h2
              have := HSL.out
              have := HL0.out
              omega
            clear cj
            by_cases e : ri S j = (p0, p1_, p2)
            · rw [e] at hq0 hq1 hq2
              dsimp only at hq0 hq1 hq2
              have hcn := haulierlaw23_HeapOrder.cnt_y (S := S) (j := j) (by have := HJL.out; have := HSL.out; omega) e
              have heq : ∀ w, (binOp .eql 33 (.agg #[.int .i64 p0, .int .i64 p1_, .int .i64 p2]) (.agg #[.int .i64 p0, .int .i64 p1_, .int .i64 p2])).run Try.prog w = .ok (.bool true) w := fun w => haulierlaw23_HeapOrder.eq33 w p0 p1_ p2
              have hw1 : wrap64 (z + 1) = z + 1 := by unfold wrap64; omega
              have HZN := Aside0.mk (show (z + 1 = (((S.take (j + 1)).count (p0, p1_, p2) : Nat) : Int)) by rw [hcn]; have := HZ.out; omega)
              clear hcn e hzb
              go_wp2_with (first | ((with_reducible refine gate_dst (N := 15) rfl ?_); refine box_event ?hg (N := 15) ?hd (cs := #[.int .i64 0, .int .i64 0, .int .i64 0]) (t := 33) ?hr ?_; (case hd => rfl); (case hg => rfl); (case hr => first | (go_simp; done) | (go_simp; rfl)); intro g15 hg_ wv hbox hb; have G15 := Aside0.mk (Nat.le_trans (below_size HB1.out) (Nat.le_of_eq hg_.symm)); have D15 := Aside0.mk (show g12 ≠ g15 by have := blk_lt B12.out; omega); replace B12 := Aside0.mk (blk_below B12.out hb); have B15 := Aside0.mk hbox; replace HB1 := Aside0.mk (below_step HB1.out hb); clear hbox hg_ hb hq0 hq1 hq2) | ((with_reducible refine gate_store (t := 33) (p := 15) rfl ?_); refine wpList_store_row rfl 33 _ _ rfl g15 #[.int .i64 p0, .int .i64 p1_, .int .i64 p2] rfl rfl 33 #[.int .i64 0, .int .i64 0, .int .i64 0] B15.out (by kernel_rfl) rfl (by first | kernel_rfl | (simp [Value.oneCell']; done) | decide) ?_; replace HB1 := Aside0.mk (below_setRow HB1.out G15.out #[.int .i64 p0, .int .i64 p1_, .int .i64 p2]); replace B12 := Aside0.mk ((setRow_other _ _ _ #[.int .i64 p0, .int .i64 p1_, .int .i64 p2] D15.out).trans B12.out); replace B15 := Aside0.mk (setRow_heap _ _ _ #[.int .i64 p0, .int .i64 p1_, .int .i64 p2] _ _ B15.out); generalize wv.setRow g15 #[.int .i64 p0, .int .i64 p1_, .int .i64 p2] = wv at HB1 B12 B15 ⊢) | ((with_reducible refine gate_dst (N := 85) rfl ?_); refine wpList_load_row rfl 33 (.tmp 15) rfl g15 rfl 33 #[.int .i64 p0, .int .i64 p1_, .int .i64 p2] (0, 0) _ B15.out Try.underlying33 rfl (by kernel_rfl) ?_) | ((with_reducible refine gate_dst (N := 86) rfl ?_); refine wpList_load_row rfl 33 (.tmp 12) rfl g12 rfl 33 #[.int .i64 p0, .int .i64 p1_, .int .i64 p2] (0, 0) _ B12.out Try.underlying33 rfl (by kernel_rfl) ?_))
              go_roundg (l0.length - (j + 1))
              case measure => have := HJQ.out; have := HJL.out; omega
              case rel => exact ⟨j + 1, z + 1, by first | rfl | rw [HWJ.out], by first | rfl | rw [hw1], ⟨by have := HJL.out; omega⟩, ⟨by omega⟩, HZN, B12, HB1⟩
            · have hcn := haulierlaw23_HeapOrder.cnt_n (S := S) (j := j) (by have := HJL.out; have := HSL.out; omega) e
              obtain ⟨⟨q0, q1, q2⟩, hq⟩ : ∃ q, ri S j = q := ⟨_, rfl⟩
              rw [hq] at hq0 hq1 hq2 e
              dsimp only at hq0 hq1 hq2
              have heq : ∀ w, (binOp .eql 33 (.agg #[.int .i64 q0, .int .i64 q1, .int .i64 q2]) (.agg #[.int .i64 p0, .int .i64 p1_, .int .i64 p2])).run Try.prog w = .ok (.bool false) w := fun w => haulierlaw23_HeapOrder.no33 w q0 q1 q2 p0 p1_ p2 e
              have HZN := Aside0.mk (show (z = (((S.take (j + 1)).count (p0, p1_, p2) : Nat) : Int)) by rw [hcn]; exact HZ.out)
              clear hcn e hzb hq
              go_wp2_with (first | ((with_reducible refine gate_dst (N := 15) rfl ?_); refine box_event ?hg (N := 15) ?hd (cs := #[.int .i64 0, .int .i64 0, .int .i64 0]) (t := 33) ?hr ?_; (case hd => rfl); (case hg => rfl); (case hr => first | (go_simp; done) | (go_simp; rfl)); intro g15 hg_ wv hbox hb; have G15 := Aside0.mk (Nat.le_trans (below_size HB1.out) (Nat.le_of_eq hg_.symm)); have D15 := Aside0.mk (show g12 ≠ g15 by have := blk_lt B12.out; omega); replace B12 := Aside0.mk (blk_below B12.out hb); have B15 := Aside0.mk hbox; replace HB1 := Aside0.mk (below_step HB1.out hb); clear hbox hg_ hb hq0 hq1 hq2) | ((with_reducible refine gate_store (t := 33) (p := 15) rfl ?_); refine wpList_store_row rfl 33 _ _ rfl g15 #[.int .i64 q0, .int .i64 q1, .int .i64 q2] rfl rfl 33 #[.int .i64 0, .int .i64 0, .int .i64 0] B15.out (by kernel_rfl) rfl (by first | kernel_rfl | (simp [Value.oneCell']; done) | decide) ?_; replace HB1 := Aside0.mk (below_setRow HB1.out G15.out #[.int .i64 q0, .int .i64 q1, .int .i64 q2]); replace B12 := Aside0.mk ((setRow_other _ _ _ #[.int .i64 q0, .int .i64 q1, .int .i64 q2] D15.out).trans B12.out); replace B15 := Aside0.mk (setRow_heap _ _ _ #[.int .i64 q0, .int .i64 q1, .int .i64 q2] _ _ B15.out); generalize wv.setRow g15 #[.int .i64 q0, .int .i64 q1, .int .i64 q2] = wv at HB1 B12 B15 ⊢) | ((with_reducible refine gate_dst (N := 85) rfl ?_); refine wpList_load_row rfl 33 (.tmp 15) rfl g15 rfl 33 #[.int .i64 q0, .int .i64 q1, .int .i64 q2] (0, 0) _ B15.out Try.underlying33 rfl (by kernel_rfl) ?_) | ((with_reducible refine gate_dst (N := 86) rfl ?_); refine wpList_load_row rfl 33 (.tmp 12) rfl g12 rfl 33 #[.int .i64 p0, .int .i64 p1_, .int .i64 p2] (0, 0) _ B12.out Try.underlying33 rfl (by kernel_rfl) ?_))
              go_roundg (l0.length - (j + 1))
              case measure => have := HJQ.out; have := HJL.out; omega
              case rel => exact ⟨j + 1, z, by first | rfl | rw [HWJ.out], rfl, ⟨by have := HJL.out; omega⟩, ⟨by omega⟩, HZN, B12, HB1⟩
          · obtain rfl : j = l0.length := by have := HJ.out; omega
            have hz := HZ.out
            rw [List.take_of_length_le (by have := HSL.out; omega)] at hz
            have HZS := Aside0.mk hz
            clear cj hz HZ
            (try go_wp2)
            go_loopg [13, 93] l0.length (fun kq v13 v93 w' => ∃ (j : Nat) (z : Int), v93 = .int .i64 (j : Int) ∧ v13 = .int .i64 z ∧ Aside0 (j ≤ l0.length) ∧ Aside0 (l0.length - j ≤ kq) ∧ Aside0 (z = ((S.count (p0, p1_, p2) : Nat) : Int) - (((L.take j).count (p0, p1_, p2) : Nat) : Int)) ∧ Aside0 (w'.heap[g12]? = some (.cells #[.int .i64 p0, .int .i64 p1_, .int .i64 p2] 33 (0, 0))) ∧ Aside0 (Below w1.heap.size w1 w'))
            case atStart => exact ⟨0, _, rfl, rfl, ⟨Nat.zero_le _⟩, ⟨by omega⟩, ⟨by rw [HZS.out]; simp⟩, B12, HB1⟩
            case round =>
              clear HB1 B12
              obtain ⟨j, z, rfl, rfl, HJ, HJQ, HZ, B12, HB1⟩ := hrel
              by_cases cj : j < l0.length
              · obtain ⟨ad7, e7, hq0, hq1, hq2⟩ := at_H (Kd.C_below HO1.out HB1.out) j (by have := HLL.out; omega)
                cases e7
                have HJL := Aside0.mk cj
                have r1_ : (0 ≤ (j : Int)) = True := eq_true (by omega)
                have r2_ : ((j : Int) < (l0.length : Int)) = True := eq_true (by omega)
                have HWJ := Aside0.mk (show wrap64 ((j : Int) + 1) = ((j + 1 : Nat) : Int) from haulierlaw23_HeapOrder.w64 j (by have := HL0.out; omega))
                have hzb : -100 ≤ z ∧ z ≤ 100 := by
                  have h1 := HZ.out
                  have h2 : (L.take j).count (p0, p1_, p2) ≤ (L.take j).length := List.count_le_length
                  have h3 : S.count (p0, p1_, p2) ≤ S.length := List.count_le_length
                  rw [List.length_take] at h2
                  have := HSL.out
                  have := HL0.out
                  omega
                clear cj
                by_cases e : ri L j = (p0, p1_, p2)
                · rw [e] at hq0 hq1 hq2
                  dsimp only at hq0 hq1 hq2
                  have hcn := haulierlaw23_HeapOrder.cnt_y (S := L) (j := j) (by have := HJL.out; have := HLL.out; omega) e
                  have heq : ∀ w, (binOp .eql 33 (.agg #[.int .i64 p0, .int .i64 p1_, .int .i64 p2]) (.agg #[.int .i64 p0, .int .i64 p1_, .int .i64 p2])).run Try.prog w = .ok (.bool true) w := fun w => haulierlaw23_HeapOrder.eq33 w p0 p1_ p2
                  have hw1 : wrap64 (z - 1) = z - 1 := by unfold wrap64; omega
                  have HZN := Aside0.mk (show (z - 1 = ((S.count (p0, p1_, p2) : Nat) : Int) - (((L.take (j + 1)).count (p0, p1_, p2) : Nat) : Int)) by rw [hcn]; have := HZ.out; omega)
                  clear hcn e hzb
                  go_wp2_with (first | ((with_reducible refine gate_dst (N := 17) rfl ?_); refine box_event ?hg (N := 17) ?hd (cs := #[.int .i64 0, .int .i64 0, .int .i64 0]) (t := 33) ?hr ?_; (case hd => rfl); (case hg => rfl); (case hr => first | (go_simp; done) | (go_simp; rfl)); intro g17 hg_ wv hbox hb; have G17 := Aside0.mk (Nat.le_trans (below_size HB1.out) (Nat.le_of_eq hg_.symm)); have D17 := Aside0.mk (show g12 ≠ g17 by have := blk_lt B12.out; omega); replace B12 := Aside0.mk (blk_below B12.out hb); have B17 := Aside0.mk hbox; replace HB1 := Aside0.mk (below_step HB1.out hb); clear hbox hg_ hb hq0 hq1 hq2) | ((with_reducible refine gate_store (t := 33) (p := 17) rfl ?_); refine wpList_store_row rfl 33 _ _ rfl g17 #[.int .i64 p0, .int .i64 p1_, .int .i64 p2] rfl rfl 33 #[.int .i64 0, .int .i64 0, .int .i64 0] B17.out (by kernel_rfl) rfl (by first | kernel_rfl | (simp [Value.oneCell']; done) | decide) ?_; replace HB1 := Aside0.mk (below_setRow HB1.out G17.out #[.int .i64 p0, .int .i64 p1_, .int .i64 p2]); replace B12 := Aside0.mk ((setRow_other _ _ _ #[.int .i64 p0, .int .i64 p1_, .int .i64 p2] D17.out).trans B12.out); replace B17 := Aside0.mk (setRow_heap _ _ _ #[.int .i64 p0, .int .i64 p1_, .int .i64 p2] _ _ B17.out); generalize wv.setRow g17 #[.int .i64 p0, .int .i64 p1_, .int .i64 p2] = wv at HB1 B12 B17 ⊢) | ((with_reducible refine gate_dst (N := 97) rfl ?_); refine wpList_load_row rfl 33 (.tmp 17) rfl g17 rfl 33 #[.int .i64 p0, .int .i64 p1_, .int .i64 p2] (0, 0) _ B17.out Try.underlying33 rfl (by kernel_rfl) ?_) | ((with_reducible refine gate_dst (N := 98) rfl ?_); refine wpList_load_row rfl 33 (.tmp 12) rfl g12 rfl 33 #[.int .i64 p0, .int .i64 p1_, .int .i64 p2] (0, 0) _ B12.out Try.underlying33 rfl (by kernel_rfl) ?_))
                  go_roundg (l0.length - (j + 1))
                  case measure => have := HJQ.out; have := HJL.out; omega
                  case rel => exact ⟨j + 1, z - 1, by first | rfl | rw [HWJ.out], by first | rfl | rw [hw1], ⟨by have := HJL.out; omega⟩, ⟨by omega⟩, HZN, B12, HB1⟩
                · have hcn := haulierlaw23_HeapOrder.cnt_n (S := L) (j := j) (by have := HJL.out; have := HLL.out; omega) e
                  obtain ⟨⟨q0, q1, q2⟩, hq⟩ : ∃ q, ri L j = q := ⟨_, rfl⟩
                  rw [hq] at hq0 hq1 hq2 e
                  dsimp only at hq0 hq1 hq2
                  have heq : ∀ w, (binOp .eql 33 (.agg #[.int .i64 q0, .int .i64 q1, .int .i64 q2]) (.agg #[.int .i64 p0, .int .i64 p1_, .int .i64 p2])).run Try.prog w = .ok (.bool false) w := fun w => haulierlaw23_HeapOrder.no33 w q0 q1 q2 p0 p1_ p2 e
                  have HZN := Aside0.mk (show (z = ((S.count (p0, p1_, p2) : Nat) : Int) - (((L.take (j + 1)).count (p0, p1_, p2) : Nat) : Int)) by rw [hcn]; exact HZ.out)
                  clear hcn e hzb hq
                  go_wp2_with (first | ((with_reducible refine gate_dst (N := 17) rfl ?_); refine box_event ?hg (N := 17) ?hd (cs := #[.int .i64 0, .int .i64 0, .int .i64 0]) (t := 33) ?hr ?_; (case hd => rfl); (case hg => rfl); (case hr => first | (go_simp; done) | (go_simp; rfl)); intro g17 hg_ wv hbox hb; have G17 := Aside0.mk (Nat.le_trans (below_size HB1.out) (Nat.le_of_eq hg_.symm)); have D17 := Aside0.mk (show g12 ≠ g17 by have := blk_lt B12.out; omega); replace B12 := Aside0.mk (blk_below B12.out hb); have B17 := Aside0.mk hbox; replace HB1 := Aside0.mk (below_step HB1.out hb); clear hbox hg_ hb hq0 hq1 hq2) | ((with_reducible refine gate_store (t := 33) (p := 17) rfl ?_); refine wpList_store_row rfl 33 _ _ rfl g17 #[.int .i64 q0, .int .i64 q1, .int .i64 q2] rfl rfl 33 #[.int .i64 0, .int .i64 0, .int .i64 0] B17.out (by kernel_rfl) rfl (by first | kernel_rfl | (simp [Value.oneCell']; done) | decide) ?_; replace HB1 := Aside0.mk (below_setRow HB1.out G17.out #[.int .i64 q0, .int .i64 q1, .int .i64 q2]); replace B12 := Aside0.mk ((setRow_other _ _ _ #[.int .i64 q0, .int .i64 q1, .int .i64 q2] D17.out).trans B12.out); replace B17 := Aside0.mk (setRow_heap _ _ _ #[.int .i64 q0, .int .i64 q1, .int .i64 q2] _ _ B17.out); generalize wv.setRow g17 #[.int .i64 q0, .int .i64 q1, .int .i64 q2] = wv at HB1 B12 B17 ⊢) | ((with_reducible refine gate_dst (N := 97) rfl ?_); refine wpList_load_row rfl 33 (.tmp 17) rfl g17 rfl 33 #[.int .i64 q0, .int .i64 q1, .int .i64 q2] (0, 0) _ B17.out Try.underlying33 rfl (by kernel_rfl) ?_) | ((with_reducible refine gate_dst (N := 98) rfl ?_); refine wpList_load_row rfl 33 (.tmp 12) rfl g12 rfl 33 #[.int .i64 p0, .int .i64 p1_, .int .i64 p2] (0, 0) _ B12.out Try.underlying33 rfl (by kernel_rfl) ?_))
                  go_roundg (l0.length - (j + 1))
                  case measure => have := HJQ.out; have := HJL.out; omega
                  case rel => exact ⟨j + 1, z, by first | rfl | rw [HWJ.out], rfl, ⟨by have := HJL.out; omega⟩, ⟨by omega⟩, HZN, B12, HB1⟩
              · obtain rfl : j = l0.length := by have := HJ.out; omega
                have hz := HZ.out
                rw [List.take_of_length_le (by have := HLL.out; omega)] at hz
                rw [HSP.out.count_eq, Int.sub_self] at hz
                subst hz
                clear cj HZ HZS
                (try go_wp2)
                go_roundg (l0.length - (i + 1))
                case measure => have := HKQ.out; have := HIN.out; omega
                case rel => exact ⟨i + 1, by first | rfl | rw [HW2.out], ⟨by have := HIN.out; omega⟩, ⟨by omega⟩, HB1⟩
    · obtain rfl : i = l0.length := by have := HI.out; omega
      replace HB := Aside0.mk (below_step HBW.out HB1.out)
      go_wp2_with ((go_at_call 6; (with_reducible refine (alive_ _).mono ?_); rintro e wv ⟨rfl, hb⟩; replace HB := Aside0.mk (below_step HB.out hb); clear hb))
      first | go_ret | go_ret2
      exact ⟨by first | rfl | simp, HB.out⟩
set_option maxHeartbeats 8000000 in
set_option maxRecDepth 100000 in
theorem haulierlaw23_HeapOrder.ft (k : Nat) (A0 : Option Addr) (c0 : Nat) (l0 : List S32) (x0 x1 x2 y0 y1 y2 : Int) (w : World) (hr0 : Kd.C k32 w A0 l0.length l0) (hc0 : l0.length ≤ c0) (h1 : ¬ 60 < l0.length) (hk : 1000 ≤ k) (hxy : lt3 (x0, x1, x2) (y0, y1, y2) = false) (hyx : lt3 (y0, y1, y2) (x0, x1, x2) = true) : Calls Try.prog 4 #[.slice A0 l0.length c0, .agg #[.int .i64 x0, .int .i64 x1, .int .i64 x2], .agg #[.int .i64 y0, .int .i64 y1, .int .i64 y2]] w fun e w' => e = .returned (.bool true) ∧ Below w.heap.size w w' := by
  have g1 : ((60 : Int) < (l0.length : Int)) = False := eq_false (by omega)
  have g2 : ((l0.length : Int) > 60) = False := eq_false (by omega)
  have HK := Aside0.mk hk
  have HR0 := Aside0.mk hr0
  have HC0 := Aside0.mk hc0
  have HL0 := Aside0.mk (show l0.length ≤ 60 by omega)
  have HXY := Aside0.mk hxy
  have HYX := Aside0.mk hyx
  clear hr0 hc0 h1 hk
  go_enter Try.func4, Try.ntmps4
  go_wp2_with (first | ((with_reducible refine gate_dst (N := 4) rfl ?_); refine box_event ?hg (N := 4) ?hd (cs := #[.int .i64 x0, .int .i64 x1, .int .i64 x2]) (t := 32) ?hr ?_; (case hd => rfl); (case hg => rfl); (case hr => first | (go_simp; done) | (go_simp; rfl)); intro g4 hg_ wv hbox hb; have B4 := Aside0.mk hbox; have HB := Aside0.mk hb; clear hbox hg_ hb) | ((with_reducible refine gate_dst (N := 5) rfl ?_); refine box_event ?hg (N := 5) ?hd (cs := #[.int .i64 y0, .int .i64 y1, .int .i64 y2]) (t := 32) ?hr ?_; (case hd => rfl); (case hg => rfl); (case hr => first | (go_simp; done) | (go_simp; rfl)); intro g5 hg_ wv hbox hb; replace B4 := Aside0.mk (blk_below B4.out hb); have B5 := Aside0.mk hbox; replace HB := Aside0.mk (below_step HB.out hb); clear hbox hg_ hb))
  refine start_ (n := 6) (S := fun w' => w'.cell? ⟨g4, 0, none⟩ = some (.int .i64 x0) ∧ w'.cell? ⟨g4, 1, none⟩ = some (.int .i64 x1) ∧ w'.cell? ⟨g4, 2, none⟩ = some (.int .i64 x2) ∧ w'.cell? ⟨g5, 0, none⟩ = some (.int .i64 y0) ∧ w'.cell? ⟨g5, 1, none⟩ = some (.int .i64 y1) ∧ w'.cell? ⟨g5, 2, none⟩ = some (.int .i64 y2)) (ds := [5]) #[false, false, false, false, false, false] (by kernel_rfl) rfl rfl ⟨(blk_cell B4.out 0).trans rfl, (blk_cell B4.out 1).trans rfl, (blk_cell B4.out 2).trans rfl, (blk_cell B5.out 0).trans rfl, (blk_cell B5.out 1).trans rfl, (blk_cell B5.out 2).trans rfl⟩ (fun hHeld => ?_)
  replace HB := Aside0.mk (HB.out.drew)
  replace B4 := Aside0.mk (show wv.drew.heap[g4]? = _ from B4.out)
  replace B5 := Aside0.mk (show wv.drew.heap[g5]? = _ from B5.out)
  generalize wv.drew = wv at HB B4 B5 hHeld ⊢
  refine take_ (i := 0) (N := some 22) (v := ?_) (a' := ?_) #[true, false, false, false, false, false] rfl rfl (by kernel_rfl) (fun _ _ _ h => h) (Or.inl ⟨by rfl, ?_⟩) hHeld ?_ ?_
  rotate_left
  · rintro w' ⟨s0, s1, s2, s3, s4, s5⟩
    go_simp
    with_reducible rfl
  rotate_left
  · simp only [Act.put, List.setIfInBounds_toArray, List.set_cons_zero, List.set_cons_succ, i64_w, i32_w]
    rfl
  refine take_ (i := 1) (N := some 23) (v := ?_) (a' := ?_) #[true, true, false, false, false, false] rfl rfl (by kernel_rfl) (fun _ _ _ h => h) (Or.inl ⟨by rfl, ?_⟩) hHeld ?_ ?_
  rotate_left
  · rintro w' ⟨s0, s1, s2, s3, s4, s5⟩
    go_simp
    with_reducible rfl
  rotate_left
  · simp only [Act.put, List.setIfInBounds_toArray, List.set_cons_zero, List.set_cons_succ, i64_w, i32_w]
    rfl
  refine join_ (σ := Nat × Nat) 2 #[true, true, true, true, false, false] (fun s => [(7, .pointer (some ⟨s.1, 0, none⟩)), (8, .pointer (some ⟨s.2, 0, none⟩))]) (fun s w' => w'.heap[s.1]? = some (.cells #[.int .i64 0, .int .i64 0, .int .i64 0] 33 (0, 0)) ∧ w'.heap[s.2]? = some (.cells #[.int .i64 0, .int .i64 0, .int .i64 0] 33 (0, 0)) ∧ s.1 ≠ s.2 ∧ w.heap.size ≤ s.1 ∧ w.heap.size ≤ s.2 ∧ Below w.heap.size w w' ∧ w'.heap[g4]? = some (.cells #[.int .i64 x0, .int .i64 x1, .int .i64 x2] 32 (0, 0)) ∧ w'.heap[g5]? = some (.cells #[.int .i64 y0, .int .i64 y1, .int .i64 y2] 32 (0, 0))) ?_ ?_
  rotate_left
  · intro hCont
    refine two_ (i := 2) (j := 3) (Ni := some 7) (Nj := some 8) #[true, true, true, false, false, false] #[true, true, false, true, false, false] rfl rfl rfl rfl (by kernel_rfl) (by decide) (by decide) (fun K hK => ?_) (fun K hK => ?_)
    · skip
      refine value_ (w1 := wv.alloc (.cells #[.int .i64 0, .int .i64 0, .int .i64 0] 33 (0, 0))) (v := .pointer (some ⟨wv.heap.size, 0, none⟩)) (by rfl) rfl (by first | (go_simp; done) | (go_simp; rfl)) ?_
      have Bx := Aside0.mk (blk_new wv (.cells #[.int .i64 0, .int .i64 0, .int .i64 0] 33 (0, 0)))
      have Sx := Aside0.mk (below_size HB.out)
      replace B4 := Aside0.mk (blk_alloc B4.out (.cells #[.int .i64 0, .int .i64 0, .int .i64 0] 33 (0, 0)))
      replace B5 := Aside0.mk (blk_alloc B5.out (.cells #[.int .i64 0, .int .i64 0, .int .i64 0] 33 (0, 0)))
      replace HB := Aside0.mk (below_alloc HB.out (.cells #[.int .i64 0, .int .i64 0, .int .i64 0] 33 (0, 0)))
      generalize wv.alloc (Obj.cells #[.int .i64 0, .int .i64 0, .int .i64 0] 33 (0, 0)) = we at Bx HB B4 B5 ⊢
      generalize wv.heap.size = sx at Bx Sx  ⊢
      generalize we = wv at Bx HB B4 B5 ⊢
      refine hK.out _ _ ⟨(blk_cell B4.out 0).trans rfl, (blk_cell B4.out 1).trans rfl, (blk_cell B4.out 2).trans rfl, (blk_cell B5.out 0).trans rfl, (blk_cell B5.out 1).trans rfl, (blk_cell B5.out 2).trans rfl⟩ (fun hHeld => ?_)
      clear hK K
      refine norm_ (a' := ?_) ?_ ?_
      rotate_left
      · show Act.put _ (some 7) _ = _
        simp only [Act.put, List.setIfInBounds_toArray, List.set_cons_zero, List.set_cons_succ, i64_w, i32_w]
        rfl
      refine one_ (i := 3) (N := some 8) #[true, true, true, true, false, false] rfl rfl (by kernel_rfl) (by decide) (fun K hK => ?_)
      refine value_ (w1 := wv.alloc (.cells #[.int .i64 0, .int .i64 0, .int .i64 0] 33 (0, 0))) (v := .pointer (some ⟨wv.heap.size, 0, none⟩)) (by rfl) rfl (by first | (go_simp; done) | (go_simp; rfl)) ?_
      have By := Aside0.mk (blk_new wv (.cells #[.int .i64 0, .int .i64 0, .int .i64 0] 33 (0, 0)))
      have NXY := Aside0.mk (Nat.ne_of_lt (blk_lt Bx.out))
      have Sy := Aside0.mk (below_size HB.out)
      replace B4 := Aside0.mk (blk_alloc B4.out (.cells #[.int .i64 0, .int .i64 0, .int .i64 0] 33 (0, 0)))
      replace B5 := Aside0.mk (blk_alloc B5.out (.cells #[.int .i64 0, .int .i64 0, .int .i64 0] 33 (0, 0)))
      replace Bx := Aside0.mk (blk_alloc Bx.out (.cells #[.int .i64 0, .int .i64 0, .int .i64 0] 33 (0, 0)))
      replace HB := Aside0.mk (below_alloc HB.out (.cells #[.int .i64 0, .int .i64 0, .int .i64 0] 33 (0, 0)))
      generalize wv.alloc (Obj.cells #[.int .i64 0, .int .i64 0, .int .i64 0] 33 (0, 0)) = we at By HB B4 B5 Bx ⊢
      generalize wv.heap.size = sy at By Sy NXY ⊢
      generalize we = wv at By HB B4 B5 Bx ⊢
      refine hK.out _ _ ⟨(blk_cell B4.out 0).trans rfl, (blk_cell B4.out 1).trans rfl, (blk_cell B4.out 2).trans rfl, (blk_cell B5.out 0).trans rfl, (blk_cell B5.out 1).trans rfl, (blk_cell B5.out 2).trans rfl⟩ (fun hHeld => ?_)
      clear hK K
      refine norm_ (a' := ?_) ?_ ?_
      rotate_left
      · show Act.put _ (some 8) _ = _
        simp only [Act.put, List.setIfInBounds_toArray, List.set_cons_zero, List.set_cons_succ, i64_w, i32_w]
        rfl
      exact norm_ (by simp only [putAll, Act.put, List.setIfInBounds_toArray, List.set_cons_zero, List.set_cons_succ]) (hCont (sx, sy) _ ⟨Bx.out, By.out, NXY.out, Sx.out, Sy.out, HB.out, B4.out, B5.out⟩)
    · skip
      refine value_ (w1 := wv.alloc (.cells #[.int .i64 0, .int .i64 0, .int .i64 0] 33 (0, 0))) (v := .pointer (some ⟨wv.heap.size, 0, none⟩)) (by rfl) rfl (by first | (go_simp; done) | (go_simp; rfl)) ?_
      have By := Aside0.mk (blk_new wv (.cells #[.int .i64 0, .int .i64 0, .int .i64 0] 33 (0, 0)))
      have Sy := Aside0.mk (below_size HB.out)
      replace B4 := Aside0.mk (blk_alloc B4.out (.cells #[.int .i64 0, .int .i64 0, .int .i64 0] 33 (0, 0)))
      replace B5 := Aside0.mk (blk_alloc B5.out (.cells #[.int .i64 0, .int .i64 0, .int .i64 0] 33 (0, 0)))
      replace HB := Aside0.mk (below_alloc HB.out (.cells #[.int .i64 0, .int .i64 0, .int .i64 0] 33 (0, 0)))
      generalize wv.alloc (Obj.cells #[.int .i64 0, .int .i64 0, .int .i64 0] 33 (0, 0)) = we at By HB B4 B5 ⊢
      generalize wv.heap.size = sy at By Sy  ⊢
      generalize we = wv at By HB B4 B5 ⊢
      refine hK.out _ _ ⟨(blk_cell B4.out 0).trans rfl, (blk_cell B4.out 1).trans rfl, (blk_cell B4.out 2).trans rfl, (blk_cell B5.out 0).trans rfl, (blk_cell B5.out 1).trans rfl, (blk_cell B5.out 2).trans rfl⟩ (fun hHeld => ?_)
      clear hK K
      refine norm_ (a' := ?_) ?_ ?_
      rotate_left
      · show Act.put _ (some 8) _ = _
        simp only [Act.put, List.setIfInBounds_toArray, List.set_cons_zero, List.set_cons_succ, i64_w, i32_w]
        rfl
      refine one_ (i := 2) (N := some 7) #[true, true, true, true, false, false] rfl rfl (by kernel_rfl) (by decide) (fun K hK => ?_)
      refine value_ (w1 := wv.alloc (.cells #[.int .i64 0, .int .i64 0, .int .i64 0] 33 (0, 0))) (v := .pointer (some ⟨wv.heap.size, 0, none⟩)) (by rfl) rfl (by first | (go_simp; done) | (go_simp; rfl)) ?_
      have Bx := Aside0.mk (blk_new wv (.cells #[.int .i64 0, .int .i64 0, .int .i64 0] 33 (0, 0)))
      have NXY := Aside0.mk (Nat.ne_of_lt (blk_lt By.out))
      have Sx := Aside0.mk (below_size HB.out)
      replace B4 := Aside0.mk (blk_alloc B4.out (.cells #[.int .i64 0, .int .i64 0, .int .i64 0] 33 (0, 0)))
      replace B5 := Aside0.mk (blk_alloc B5.out (.cells #[.int .i64 0, .int .i64 0, .int .i64 0] 33 (0, 0)))
      replace By := Aside0.mk (blk_alloc By.out (.cells #[.int .i64 0, .int .i64 0, .int .i64 0] 33 (0, 0)))
      replace HB := Aside0.mk (below_alloc HB.out (.cells #[.int .i64 0, .int .i64 0, .int .i64 0] 33 (0, 0)))
      generalize wv.alloc (Obj.cells #[.int .i64 0, .int .i64 0, .int .i64 0] 33 (0, 0)) = we at Bx HB B4 B5 By ⊢
      generalize wv.heap.size = sx at Bx Sx NXY ⊢
      generalize we = wv at Bx HB B4 B5 By ⊢
      refine hK.out _ _ ⟨(blk_cell B4.out 0).trans rfl, (blk_cell B4.out 1).trans rfl, (blk_cell B4.out 2).trans rfl, (blk_cell B5.out 0).trans rfl, (blk_cell B5.out 1).trans rfl, (blk_cell B5.out 2).trans rfl⟩ (fun hHeld => ?_)
      clear hK K
      refine norm_ (a' := ?_) ?_ ?_
      rotate_left
      · show Act.put _ (some 7) _ = _
        simp only [Act.put, List.setIfInBounds_toArray, List.set_cons_zero, List.set_cons_succ, i64_w, i32_w]
        rfl
      exact norm_ (by simp only [putAll, Act.put, List.setIfInBounds_toArray, List.set_cons_zero, List.set_cons_succ]) (hCont (sx, sy) _ ⟨Bx.out, By.out, NXY.out.symm, Sx.out, Sy.out, HB.out, B4.out, B5.out⟩)
  rintro ⟨gx, gy⟩ wx ⟨BX0, BY0, nxy, SX, SY, HB0, BA0, BB0⟩
  replace HB := Aside0.mk HB0
  have hHeld : (wx.cell? ⟨g4, 0, none⟩ = some (.int .i64 x0) ∧ wx.cell? ⟨g4, 1, none⟩ = some (.int .i64 x1) ∧ wx.cell? ⟨g4, 2, none⟩ = some (.int .i64 x2) ∧ wx.cell? ⟨g5, 0, none⟩ = some (.int .i64 y0) ∧ wx.cell? ⟨g5, 1, none⟩ = some (.int .i64 y1) ∧ wx.cell? ⟨g5, 2, none⟩ = some (.int .i64 y2)) := ⟨(blk_cell BA0 0).trans rfl, (blk_cell BA0 1).trans rfl, (blk_cell BA0 2).trans rfl, (blk_cell BB0 0).trans rfl, (blk_cell BB0 1).trans rfl, (blk_cell BB0 2).trans rfl⟩
  clear HB0 B4 B5
  refine norm_ (a' := ?_) ?_ ?_
  rotate_left
  · simp only [putAll, Act.put, List.setIfInBounds_toArray, List.set_cons_zero, List.set_cons_succ]
    rfl
  refine one_ (i := 4) (N := none) #[true, true, true, true, true, false] rfl rfl (by kernel_rfl) (by decide) (fun K hK => ?_)
  rw [if_pos (by rfl)]
  refine wp_store_row 33 _ _ rfl gx #[.int .i64 x0, .int .i64 x1, .int .i64 x2] rfl rfl 33 #[.int .i64 0, .int .i64 0, .int .i64 0] BX0 (by kernel_rfl) rfl (by first | kernel_rfl | (simp [Value.oneCell']; done) | decide) ?_
  refine hK.out _ _ ⟨(blk_cell ((setRow_other _ _ _ _ (blk_ne BA0 BX0 (by decide))).trans BA0) 0).trans rfl, (blk_cell ((setRow_other _ _ _ _ (blk_ne BA0 BX0 (by decide))).trans BA0) 1).trans rfl, (blk_cell ((setRow_other _ _ _ _ (blk_ne BA0 BX0 (by decide))).trans BA0) 2).trans rfl, (blk_cell ((setRow_other _ _ _ _ (blk_ne BB0 BX0 (by decide))).trans BB0) 0).trans rfl, (blk_cell ((setRow_other _ _ _ _ (blk_ne BB0 BX0 (by decide))).trans BB0) 1).trans rfl, (blk_cell ((setRow_other _ _ _ _ (blk_ne BB0 BX0 (by decide))).trans BB0) 2).trans rfl⟩ (fun hHeld => ?_)
  clear hK K
  refine last_ (i := 5) (N := none) #[true, true, true, true, true, true] rfl rfl (by kernel_rfl) (by decide) (fun K hK => ?_)
  rw [if_pos (by rfl)]
  refine wp_store_row 33 _ _ rfl gy #[.int .i64 y0, .int .i64 y1, .int .i64 y2] rfl rfl 33 #[.int .i64 0, .int .i64 0, .int .i64 0] ((setRow_other _ _ _ _ nxy.symm).trans BY0) (by kernel_rfl) rfl (by first | kernel_rfl | (simp [Value.oneCell']; done) | decide) ?_
  refine hK.out _ _ ?_
  clear hK K
  refine done_ (by kernel_rfl) ?_
  obtain ⟨wq, hwq⟩ : ∃ wq, wq = (wx.setRow gx #[.int .i64 x0, .int .i64 x1, .int .i64 x2]).setRow gy #[.int .i64 y0, .int .i64 y1, .int .i64 y2] := ⟨_, rfl⟩
  rw [← hwq]
  have BX := Aside0.mk (show wq.heap[gx]? = some (.cells #[.int .i64 x0, .int .i64 x1, .int .i64 x2] 33 (0, 0)) by subst hwq; exact (setRow_other _ _ _ _ nxy).trans (setRow_heap _ _ _ _ _ _ BX0))
  have BY := Aside0.mk (show wq.heap[gy]? = some (.cells #[.int .i64 y0, .int .i64 y1, .int .i64 y2] 33 (0, 0)) by subst hwq; exact setRow_heap _ _ _ _ _ _ ((setRow_other _ _ _ _ nxy.symm).trans BY0))
  replace HB := Aside0.mk (show Below w.heap.size w wq by subst hwq; exact below_setRow (below_setRow HB.out SX _) SY _)
  clear hwq hHeld BX0 BY0 BA0 BB0 SX SY nxy
  have hx0 : wq.cell? ⟨gx, 0, none⟩ = some (.int .i64 x0) := (blk_cell BX.out 0).trans rfl
  have hx1 : wq.cell? ⟨gx, 1, none⟩ = some (.int .i64 x1) := (blk_cell BX.out 1).trans rfl
  have hx2 : wq.cell? ⟨gx, 2, none⟩ = some (.int .i64 x2) := (blk_cell BX.out 2).trans rfl
  have hy0 : wq.cell? ⟨gy, 0, none⟩ = some (.int .i64 y0) := (blk_cell BY.out 0).trans rfl
  have hy1 : wq.cell? ⟨gy, 1, none⟩ = some (.int .i64 y1) := (blk_cell BY.out 1).trans rfl
  have hy2 : wq.cell? ⟨gy, 2, none⟩ = some (.int .i64 y2) := (blk_cell BY.out 2).trans rfl
  go_wp2_with (first | (go_at_call 12; (with_reducible refine (less_ x0 x1 x2 y0 y1 y2 _).mono ?_); rintro e wv ⟨rfl, hb⟩; rw [HXY.out]; clear hx0 hx1 hx2 hy0 hy1 hy2; replace BX := Aside0.mk (blk_below BX.out hb); replace BY := Aside0.mk (blk_below BY.out hb); replace HB := Aside0.mk (below_step HB.out hb); clear hb; have hx0 : wv.cell? ⟨gx, 0, none⟩ = some (.int .i64 x0) := (blk_cell BX.out 0).trans rfl; have hx1 : wv.cell? ⟨gx, 1, none⟩ = some (.int .i64 x1) := (blk_cell BX.out 1).trans rfl; have hx2 : wv.cell? ⟨gx, 2, none⟩ = some (.int .i64 x2) := (blk_cell BX.out 2).trans rfl; have hy0 : wv.cell? ⟨gy, 0, none⟩ = some (.int .i64 y0) := (blk_cell BY.out 0).trans rfl; have hy1 : wv.cell? ⟨gy, 1, none⟩ = some (.int .i64 y1) := (blk_cell BY.out 1).trans rfl; have hy2 : wv.cell? ⟨gy, 2, none⟩ = some (.int .i64 y2) := (blk_cell BY.out 2).trans rfl) | (go_at_call 12; (with_reducible refine (less_ y0 y1 y2 x0 x1 x2 _).mono ?_); rintro e wv ⟨rfl, hb⟩; rw [HYX.out]; clear hx0 hx1 hx2 hy0 hy1 hy2; replace BX := Aside0.mk (blk_below BX.out hb); replace BY := Aside0.mk (blk_below BY.out hb); replace HB := Aside0.mk (below_step HB.out hb); clear hb; have hx0 : wv.cell? ⟨gx, 0, none⟩ = some (.int .i64 x0) := (blk_cell BX.out 0).trans rfl; have hx1 : wv.cell? ⟨gx, 1, none⟩ = some (.int .i64 x1) := (blk_cell BX.out 1).trans rfl; have hx2 : wv.cell? ⟨gx, 2, none⟩ = some (.int .i64 x2) := (blk_cell BX.out 2).trans rfl; have hy0 : wv.cell? ⟨gy, 0, none⟩ = some (.int .i64 y0) := (blk_cell BY.out 0).trans rfl; have hy1 : wv.cell? ⟨gy, 1, none⟩ = some (.int .i64 y1) := (blk_cell BY.out 1).trans rfl; have hy2 : wv.cell? ⟨gy, 2, none⟩ = some (.int .i64 y2) := (blk_cell BY.out 2).trans rfl) | (go_at_call 8; (with_reducible refine (haulierlaw23_HeapOrder.givec k A0 c0 l0 _ HK.out HL0.out (Kd.C_below HR0.out HB.out) HC0.out).mono ?_); rintro e wv ⟨A2, c2, rfl, ho, hb⟩; have HO := Aside0.mk ho; clear BX BY hx0 hx1 hx2 hy0 hy1 hy2; replace HB := Aside0.mk (below_step HB.out hb); clear ho hb) | (go_at_call 7; (with_reducible refine (new_n A2 c2 l0.length (l0.map haulierlaw23_HeapOrder.t) (by simp) (by have := HL0.out; omega) _ (Kd.R_reads' HO.out).2.2).mono ?_); rintro e wn ⟨b, v, rfl, hi, hb⟩; have HB0 := Aside0.mk hb; obtain ⟨ys, HS0, HH⟩ : ∃ ys, Aside0 (HS ys (isort (l0.map haulierlaw23_HeapOrder.t))) ∧ Aside0 (IsH wn wv.heap.size b v ys) := ⟨_, ⟨by have h := HS.new (l0.map haulierlaw23_HeapOrder.t); rw [List.length_map] at h; exact h⟩, ⟨hi⟩⟩; have HYL := Aside0.mk (show ys.length = l0.length by have := HS0.out.len; rw [isort_len, List.length_map] at this; omega); obtain ⟨r1, r2, HDR⟩ : ∃ r1 r2, Aside0 (drainL l0.length ys = (r1, r2)) := ⟨_, _, ⟨rfl⟩⟩; have HR1 := Aside0.mk (show r1 = isort (l0.map haulierlaw23_HeapOrder.t) by have h := (Go.Proofs.Ytojaflnejkbjnaa.Hp9.HS.drain (m := l0.length) HS0.out (by have := HS0.out.len; have := HYL.out; omega)).1; rw [HDR.out] at h; replace h : r1 = _ := h; rw [h, List.take_of_length_le (by have := HS0.out.len; have := HYL.out; omega)]); clear hi hb) | (go_at_call 10; (with_reducible refine (drain_ wv.heap.size b v ys (l0.length : Int) l0.length r1 r2 (by have := HYL.out; have := HL0.out; omega) (by have := HYL.out; omega) HDR.out _ HH.out).mono ?_); rintro e w1 ⟨vo, rfl, ho, hg⟩; have HBZ := Aside0.mk (Goes.base HB0.out HH.out hg (Nat.le_refl _)); obtain ⟨A5, c5, e5⟩ := Kd.R_slice ho; rw [show r1.length = l0.length by rw [HR1.out, isort_len, List.length_map]] at e5; subst e5; obtain ⟨S, L, HSO, HSP, HSL, HLL, HD1, HO1⟩ : ∃ S L : List It, Aside0 (S.Pairwise (fun a b => lt3 b a = false)) ∧ Aside0 (S.Perm L) ∧ Aside0 (S.length = l0.length) ∧ Aside0 (L.length = l0.length) ∧ Aside0 (Kd.C kdi w1 A5 S.length S) ∧ Aside0 (Kd.C kdi w1 A2 L.length L) := ⟨r1, l0.map haulierlaw23_HeapOrder.t, ⟨by rw [HR1.out]; exact (haulierlaw23_HeapOrder.sorted_ _).1⟩, ⟨by rw [HR1.out]; exact (haulierlaw23_HeapOrder.sorted_ _).2⟩, ⟨by rw [HR1.out, isort_len, List.length_map]⟩, ⟨by simp⟩, ⟨(Kd.R_reads' ho).2.2⟩, ⟨Kd.C_below (Kd.R_reads' HO.out).2.2 HBZ.out⟩⟩; have HBW := Aside0.mk (below_step HB.out HBZ.out); have HB1 := Aside0.mk (Below.refl w1.heap.size w1); clear ho hg HH HB0 HBZ HB HR1 HDR HS0 HYL HO))
  clear g1 g2
  go_loopg [63] l0.length (fun kq v63 w' => ∃ i : Nat, v63 = .int .i64 (i : Int) ∧ Aside0 (i ≤ l0.length) ∧ Aside0 (l0.length - i ≤ kq) ∧ Aside0 (Below w1.heap.size w1 w'))
  case atStart => exact ⟨0, rfl, ⟨Nat.zero_le _⟩, ⟨by omega⟩, HB1⟩
  case round =>
    clear HB1
    obtain ⟨i, rfl, HI, HKQ, HB1⟩ := hrel
    by_cases ci : i < l0.length
    · obtain ⟨ad6, e6, hd0, hd1, hd2⟩ := at_H (Kd.C_below HD1.out HB1.out) i (by have := HSL.out; omega)
      subst e6
      obtain ⟨⟨p0, p1_, p2⟩, hp⟩ : ∃ p, ri S i = p := ⟨_, rfl⟩
      rw [hp] at hd0 hd1 hd2
      dsimp only at hd0 hd1 hd2
      have HIN := Aside0.mk ci
      have HPI := Aside0.mk hp
      have r1_ : (0 ≤ (i : Int)) = True := eq_true (by omega)
      have r2_ : ((i : Int) < (l0.length : Int)) = True := eq_true (by omega)
      have HW2 := Aside0.mk (show wrap64 ((i : Int) + 1) = ((i + 1 : Nat) : Int) from haulierlaw23_HeapOrder.w64 i (by have := HL0.out; omega))
      clear hp ci
      by_cases c0_ : i = 0
      · have r3_ : ((i : Int) > 0) = False := eq_false (by omega)
        have r4_ : (0 < (i : Int)) = False := eq_false (by omega)
        have r5_ : (0 < i) = False := eq_false (by omega)
        have r6_ : decide ((i : Int) > 0) = false := decide_eq_false (by omega)
        clear c0_
        go_wp2_with (first | ((with_reducible refine gate_dst (N := 12) rfl ?_); refine box_event ?hg (N := 12) ?hd (cs := #[.int .i64 0, .int .i64 0, .int .i64 0]) (t := 33) ?hr ?_; (case hd => rfl); (case hg => rfl); (case hr => first | (go_simp; done) | (go_simp; rfl)); intro g12 hg_ wv hbox hb; have G12 := Aside0.mk (Nat.le_trans (below_size HB1.out) (Nat.le_of_eq hg_.symm)); have B12 := Aside0.mk hbox; replace HB1 := Aside0.mk (below_step HB1.out hb); clear hbox hg_ hb hd0 hd1 hd2) | ((with_reducible refine gate_store (t := 33) (p := 12) rfl ?_); refine wpList_store_row rfl 33 _ _ rfl g12 #[.int .i64 p0, .int .i64 p1_, .int .i64 p2] rfl rfl 33 #[.int .i64 0, .int .i64 0, .int .i64 0] B12.out (by kernel_rfl) rfl (by first | kernel_rfl | (simp [Value.oneCell']; done) | decide) ?_; replace HB1 := Aside0.mk (below_setRow HB1.out G12.out #[.int .i64 p0, .int .i64 p1_, .int .i64 p2]); replace B12 := Aside0.mk (setRow_heap _ _ _ #[.int .i64 p0, .int .i64 p1_, .int .i64 p2] _ _ B12.out); generalize wv.setRow g12 #[.int .i64 p0, .int .i64 p1_, .int .i64 p2] = wv at HB1 B12 ⊢))
        refine start_ (n := 11) (S := fun w' => True) (ds := []) #[false, false, false, false, false, false, false, false, false, false, false] (by kernel_rfl) rfl rfl trivial (fun hHeld => ?_)
        replace HB1 := Aside0.mk (HB1.out.drew)
        replace B12 := Aside0.mk (show wv.drew.heap[g12]? = _ from B12.out)
        generalize wv.drew = wv at HB1 B12 hHeld ⊢
        refine pure_ (i := 0) (N := some 68) (v := ?_) (a' := ?_) #[true, false, false, false, false, false, false, false, false, false, false] rfl rfl (by kernel_rfl) (fun _ _ _ h => h) (Or.inl ⟨by rfl, ?_⟩) ?_ ?_
        rotate_left
        · intro w'
          go_simp
          with_reducible rfl
        rotate_left
        · simp only [Act.put, List.setIfInBounds_toArray, List.set_cons_zero, List.set_cons_succ, i64_w, i32_w]
          rfl
        refine pure_ (i := 1) (N := some 69) (v := ?_) (a' := ?_) #[true, true, false, false, false, false, false, false, false, false, false] rfl rfl (by kernel_rfl) (fun _ _ _ h => h) (Or.inl ⟨by rfl, ?_⟩) ?_ ?_
        rotate_left
        · intro w'
          go_simp
          with_reducible rfl
        rotate_left
        · simp only [Act.put, List.setIfInBounds_toArray, List.set_cons_zero, List.set_cons_succ, i64_w, i32_w]
          rfl
        refine pure_ (i := 2) (N := some 70) (v := ?_) (a' := ?_) #[true, true, true, false, false, false, false, false, false, false, false] rfl rfl (by kernel_rfl) (fun _ _ _ h => h) (Or.inl ⟨by rfl, ?_⟩) ?_ ?_
        rotate_left
        · intro w'
          go_simp
          with_reducible rfl
        rotate_left
        · simp only [Act.put, List.setIfInBounds_toArray, List.set_cons_zero, List.set_cons_succ, i64_w, i32_w]
          rfl
        refine pure_ (i := 3) (N := some 71) (v := undef) (a' := ?_) #[true, true, true, true, false, false, false, false, false, false, false] rfl rfl (by kernel_rfl) (fun _ _ _ h => h) (Or.inr ⟨by rfl, rfl⟩) ?_ ?_
        rotate_left
        · simp only [Act.put, List.setIfInBounds_toArray, List.set_cons_zero, List.set_cons_succ, i64_w, i32_w]
          rfl
        refine pure_ (i := 4) (N := some 72) (v := undef) (a' := ?_) #[true, true, true, true, true, false, false, false, false, false, false] rfl rfl (by kernel_rfl) (fun _ _ _ h => h) (Or.inr ⟨by rfl, rfl⟩) ?_ ?_
        rotate_left
        · simp only [Act.put, List.setIfInBounds_toArray, List.set_cons_zero, List.set_cons_succ, i64_w, i32_w]
          rfl
        refine pure_ (i := 5) (N := some 73) (v := undef) (a' := ?_) #[true, true, true, true, true, true, false, false, false, false, false] rfl rfl (by kernel_rfl) (fun _ _ _ h => h) (Or.inr ⟨by rfl, rfl⟩) ?_ ?_
        rotate_left
        · simp only [Act.put, List.setIfInBounds_toArray, List.set_cons_zero, List.set_cons_succ, i64_w, i32_w]
          rfl
        refine pure_ (i := 6) (N := some 74) (v := undef) (a' := ?_) #[true, true, true, true, true, true, true, false, false, false, false] rfl rfl (by kernel_rfl) (fun _ _ _ h => h) (Or.inr ⟨by rfl, rfl⟩) ?_ ?_
        rotate_left
        · simp only [Act.put, List.setIfInBounds_toArray, List.set_cons_zero, List.set_cons_succ, i64_w, i32_w]
          rfl
        refine pure_ (i := 7) (N := some 75) (v := undef) (a' := ?_) #[true, true, true, true, true, true, true, true, false, false, false] rfl rfl (by kernel_rfl) (fun _ _ _ h => h) (Or.inr ⟨by rfl, rfl⟩) ?_ ?_
        rotate_left
        · simp only [Act.put, List.setIfInBounds_toArray, List.set_cons_zero, List.set_cons_succ, i64_w, i32_w]
          rfl
        refine pure_ (i := 8) (N := some 76) (v := undef) (a' := ?_) #[true, true, true, true, true, true, true, true, true, false, false] rfl rfl (by kernel_rfl) (fun _ _ _ h => h) (Or.inr ⟨by rfl, rfl⟩) ?_ ?_
        rotate_left
        · simp only [Act.put, List.setIfInBounds_toArray, List.set_cons_zero, List.set_cons_succ, i64_w, i32_w]
          rfl
        refine pure_ (i := 9) (N := some 77) (v := undef) (a' := ?_) #[true, true, true, true, true, true, true, true, true, true, false] rfl rfl (by kernel_rfl) (fun _ _ _ h => h) (Or.inr ⟨by rfl, rfl⟩) ?_ ?_
        rotate_left
        · simp only [Act.put, List.setIfInBounds_toArray, List.set_cons_zero, List.set_cons_succ, i64_w, i32_w]
          rfl
        refine pure_ (i := 10) (N := some 78) (v := ?_) (a' := ?_) #[true, true, true, true, true, true, true, true, true, true, true] rfl rfl (by kernel_rfl) (fun _ _ _ h => h) (Or.inl ⟨by rfl, ?_⟩) ?_ ?_
        rotate_left
        · intro w'
          go_simp
          with_reducible rfl
        rotate_left
        · simp only [Act.put, List.setIfInBounds_toArray, List.set_cons_zero, List.set_cons_succ, i64_w, i32_w]
          rfl
        refine done_ (by kernel_rfl) ?_
        (try go_wp2)
        go_loopg [13, 81] l0.length (fun kq v13 v81 w' => ∃ (j : Nat) (z : Int), v81 = .int .i64 (j : Int) ∧ v13 = .int .i64 z ∧ Aside0 (j ≤ l0.length) ∧ Aside0 (l0.length - j ≤ kq) ∧ Aside0 (z = (((S.take j).count (p0, p1_, p2) : Nat) : Int)) ∧ Aside0 (w'.heap[g12]? = some (.cells #[.int .i64 p0, .int .i64 p1_, .int .i64 p2] 33 (0, 0))) ∧ Aside0 (Below w1.heap.size w1 w'))
        case atStart => exact ⟨0, 0, rfl, rfl, ⟨Nat.zero_le _⟩, ⟨by omega⟩, ⟨by simp⟩, B12, HB1⟩
        case round =>
          clear HB1 B12
          obtain ⟨j, z, rfl, rfl, HJ, HJQ, HZ, B12, HB1⟩ := hrel
          by_cases cj : j < l0.length
          · obtain ⟨ad7, e7, hq0, hq1, hq2⟩ := at_H (Kd.C_below HD1.out HB1.out) j (by have := HSL.out; omega)
            cases e7
            have HJL := Aside0.mk cj
            have r1_ : (0 ≤ (j : Int)) = True := eq_true (by omega)
            have r2_ : ((j : Int) < (l0.length : Int)) = True := eq_true (by omega)
            have HWJ := Aside0.mk (show wrap64 ((j : Int) + 1) = ((j + 1 : Nat) : Int) from haulierlaw23_HeapOrder.w64 j (by have := HL0.out; omega))
            have hzb : -100 ≤ z ∧ z ≤ 100 := by
              have h1 := HZ.out
              have h2 : (S.take j).count (p0, p1_, p2) ≤ (S.take j).length := List.count_le_length
              have h3 : S.count (p0, p1_, p2) ≤ S.length := List.count_le_length
              rw [List.length_take] at h2
              have := HSL.out
              have := HL0.out
              omega
            clear cj
            by_cases e : ri S j = (p0, p1_, p2)
            · rw [e] at hq0 hq1 hq2
              dsimp only at hq0 hq1 hq2
              have hcn := haulierlaw23_HeapOrder.cnt_y (S := S) (j := j) (by have := HJL.out; have := HSL.out; omega) e
              have heq : ∀ w, (binOp .eql 33 (.agg #[.int .i64 p0, .int .i64 p1_, .int .i64 p2]) (.agg #[.int .i64 p0, .int .i64 p1_, .int .i64 p2])).run Try.prog w = .ok (.bool true) w := fun w => haulierlaw23_HeapOrder.eq33 w p0 p1_ p2
              have hw1 : wrap64 (z + 1) = z + 1 := by unfold wrap64; omega
              have HZN := Aside0.mk (show (z + 1 = (((S.take (j + 1)).count (p0, p1_, p2) : Nat) : Int)) by rw [hcn]; have := HZ.out; omega)
              clear hcn e hzb
              go_wp2_with (first | ((with_reducible refine gate_dst (N := 15) rfl ?_); refine box_event ?hg (N := 15) ?hd (cs := #[.int .i64 0, .int .i64 0, .int .i64 0]) (t := 33) ?hr ?_; (case hd => rfl); (case hg => rfl); (case hr => first | (go_simp; done) | (go_simp; rfl)); intro g15 hg_ wv hbox hb; have G15 := Aside0.mk (Nat.le_trans (below_size HB1.out) (Nat.le_of_eq hg_.symm)); have D15 := Aside0.mk (show g12 ≠ g15 by have := blk_lt B12.out; omega); replace B12 := Aside0.mk (blk_below B12.out hb); have B15 := Aside0.mk hbox; replace HB1 := Aside0.mk (below_step HB1.out hb); clear hbox hg_ hb hq0 hq1 hq2) | ((with_reducible refine gate_store (t := 33) (p := 15) rfl ?_); refine wpList_store_row rfl 33 _ _ rfl g15 #[.int .i64 p0, .int .i64 p1_, .int .i64 p2] rfl rfl 33 #[.int .i64 0, .int .i64 0, .int .i64 0] B15.out (by kernel_rfl) rfl (by first | kernel_rfl | (simp [Value.oneCell']; done) | decide) ?_; replace HB1 := Aside0.mk (below_setRow HB1.out G15.out #[.int .i64 p0, .int .i64 p1_, .int .i64 p2]); replace B12 := Aside0.mk ((setRow_other _ _ _ #[.int .i64 p0, .int .i64 p1_, .int .i64 p2] D15.out).trans B12.out); replace B15 := Aside0.mk (setRow_heap _ _ _ #[.int .i64 p0, .int .i64 p1_, .int .i64 p2] _ _ B15.out); generalize wv.setRow g15 #[.int .i64 p0, .int .i64 p1_, .int .i64 p2] = wv at HB1 B12 B15 ⊢) | ((with_reducible refine gate_dst (N := 85) rfl ?_); refine wpList_load_row rfl 33 (.tmp 15) rfl g15 rfl 33 #[.int .i64 p0, .int .i64 p1_, .int .i64 p2] (0, 0) _ B15.out Try.underlying33 rfl (by kernel_rfl) ?_) | ((with_reducible refine gate_dst (N := 86) rfl ?_); refine wpList_load_row rfl 33 (.tmp 12) rfl g12 rfl 33 #[.int .i64 p0, .int .i64 p1_, .int .i64 p2] (0, 0) _ B12.out Try.underlying33 rfl (by kernel_rfl) ?_))
              go_roundg (l0.length - (j + 1))
              case measure => have := HJQ.out; have := HJL.out; omega
              case rel => exact ⟨j + 1, z + 1, by first | rfl | rw [HWJ.out], by first | rfl | rw [hw1], ⟨by have := HJL.out; omega⟩, ⟨by omega⟩, HZN, B12, HB1⟩
            · have hcn := haulierlaw23_HeapOrder.cnt_n (S := S) (j := j) (by have := HJL.out; have := HSL.out; omega) e
              obtain ⟨⟨q0, q1, q2⟩, hq⟩ : ∃ q, ri S j = q := ⟨_, rfl⟩
              rw [hq] at hq0 hq1 hq2 e
              dsimp only at hq0 hq1 hq2
              have heq : ∀ w, (binOp .eql 33 (.agg #[.int .i64 q0, .int .i64 q1, .int .i64 q2]) (.agg #[.int .i64 p0, .int .i64 p1_, .int .i64 p2])).run Try.prog w = .ok (.bool false) w := fun w => haulierlaw23_HeapOrder.no33 w q0 q1 q2 p0 p1_ p2 e
              have HZN := Aside0.mk (show (z = (((S.take (j + 1)).count (p0, p1_, p2) : Nat) : Int)) by rw [hcn]; exact HZ.out)
              clear hcn e hzb hq
              go_wp2_with (first | ((with_reducible refine gate_dst (N := 15) rfl ?_); refine box_event ?hg (N := 15) ?hd (cs := #[.int .i64 0, .int .i64 0, .int .i64 0]) (t := 33) ?hr ?_; (case hd => rfl); (case hg => rfl); (case hr => first | (go_simp; done) | (go_simp; rfl)); intro g15 hg_ wv hbox hb; have G15 := Aside0.mk (Nat.le_trans (below_size HB1.out) (Nat.le_of_eq hg_.symm)); have D15 := Aside0.mk (show g12 ≠ g15 by have := blk_lt B12.out; omega); replace B12 := Aside0.mk (blk_below B12.out hb); have B15 := Aside0.mk hbox; replace HB1 := Aside0.mk (below_step HB1.out hb); clear hbox hg_ hb hq0 hq1 hq2) | ((with_reducible refine gate_store (t := 33) (p := 15) rfl ?_); refine wpList_store_row rfl 33 _ _ rfl g15 #[.int .i64 q0, .int .i64 q1, .int .i64 q2] rfl rfl 33 #[.int .i64 0, .int .i64 0, .int .i64 0] B15.out (by kernel_rfl) rfl (by first | kernel_rfl | (simp [Value.oneCell']; done) | decide) ?_; replace HB1 := Aside0.mk (below_setRow HB1.out G15.out #[.int .i64 q0, .int .i64 q1, .int .i64 q2]); replace B12 := Aside0.mk ((setRow_other _ _ _ #[.int .i64 q0, .int .i64 q1, .int .i64 q2] D15.out).trans B12.out); replace B15 := Aside0.mk (setRow_heap _ _ _ #[.int .i64 q0, .int .i64 q1, .int .i64 q2] _ _ B15.out); generalize wv.setRow g15 #[.int .i64 q0, .int .i64 q1, .int .i64 q2] = wv at HB1 B12 B15 ⊢) | ((with_reducible refine gate_dst (N := 85) rfl ?_); refine wpList_load_row rfl 33 (.tmp 15) rfl g15 rfl 33 #[.int .i64 q0, .int .i64 q1, .int .i64 q2] (0, 0) _ B15.out Try.underlying33 rfl (by kernel_rfl) ?_) | ((with_reducible refine gate_dst (N := 86) rfl ?_); refine wpList_load_row rfl 33 (.tmp 12) rfl g12 rfl 33 #[.int .i64 p0, .int .i64 p1_, .int .i64 p2] (0, 0) _ B12.out Try.underlying33 rfl (by kernel_rfl) ?_))
              go_roundg (l0.length - (j + 1))
              case measure => have := HJQ.out; have := HJL.out; omega
              case rel => exact ⟨j + 1, z, by first | rfl | rw [HWJ.out], rfl, ⟨by have := HJL.out; omega⟩, ⟨by omega⟩, HZN, B12, HB1⟩
          · obtain rfl : j = l0.length := by have := HJ.out; omega
            have hz := HZ.out
            rw [List.take_of_length_le (by have := HSL.out; omega)] at hz
            have HZS := Aside0.mk hz
            clear cj hz HZ
            (try go_wp2)
            go_loopg [13, 93] l0.length (fun kq v13 v93 w' => ∃ (j : Nat) (z : Int), v93 = .int .i64 (j : Int) ∧ v13 = .int .i64 z ∧ Aside0 (j ≤ l0.length) ∧ Aside0 (l0.length - j ≤ kq) ∧ Aside0 (z = ((S.count (p0, p1_, p2) : Nat) : Int) - (((L.take j).count (p0, p1_, p2) : Nat) : Int)) ∧ Aside0 (w'.heap[g12]? = some (.cells #[.int .i64 p0, .int .i64 p1_, .int .i64 p2] 33 (0, 0))) ∧ Aside0 (Below w1.heap.size w1 w'))
            case atStart => exact ⟨0, _, rfl, rfl, ⟨Nat.zero_le _⟩, ⟨by omega⟩, ⟨by rw [HZS.out]; simp⟩, B12, HB1⟩
            case round =>
              clear HB1 B12
              obtain ⟨j, z, rfl, rfl, HJ, HJQ, HZ, B12, HB1⟩ := hrel
              by_cases cj : j < l0.length
              · obtain ⟨ad7, e7, hq0, hq1, hq2⟩ := at_H (Kd.C_below HO1.out HB1.out) j (by have := HLL.out; omega)
                cases e7
                have HJL := Aside0.mk cj
                have r1_ : (0 ≤ (j : Int)) = True := eq_true (by omega)
                have r2_ : ((j : Int) < (l0.length : Int)) = True := eq_true (by omega)
                have HWJ := Aside0.mk (show wrap64 ((j : Int) + 1) = ((j + 1 : Nat) : Int) from haulierlaw23_HeapOrder.w64 j (by have := HL0.out; omega))
                have hzb : -100 ≤ z ∧ z ≤ 100 := by
                  have h1 := HZ.out
                  have h2 : (L.take j).count (p0, p1_, p2) ≤ (L.take j).length := List.count_le_length
                  have h3 : S.count (p0, p1_, p2) ≤ S.length := List.count_le_length
                  rw [List.length_take] at h2
                  have := HSL.out
                  have := HL0.out
                  omega
                clear cj
                by_cases e : ri L j = (p0, p1_, p2)
                · rw [e] at hq0 hq1 hq2
                  dsimp only at hq0 hq1 hq2
                  have hcn := haulierlaw23_HeapOrder.cnt_y (S := L) (j := j) (by have := HJL.out; have := HLL.out; omega) e
                  have heq : ∀ w, (binOp .eql 33 (.agg #[.int .i64 p0, .int .i64 p1_, .int .i64 p2]) (.agg #[.int .i64 p0, .int .i64 p1_, .int .i64 p2])).run Try.prog w = .ok (.bool true) w := fun w => haulierlaw23_HeapOrder.eq33 w p0 p1_ p2
                  have hw1 : wrap64 (z - 1) = z - 1 := by unfold wrap64; omega
                  have HZN := Aside0.mk (show (z - 1 = ((S.count (p0, p1_, p2) : Nat) : Int) - (((L.take (j + 1)).count (p0, p1_, p2) : Nat) : Int)) by rw [hcn]; have := HZ.out; omega)
                  clear hcn e hzb
                  go_wp2_with (first | ((with_reducible refine gate_dst (N := 17) rfl ?_); refine box_event ?hg (N := 17) ?hd (cs := #[.int .i64 0, .int .i64 0, .int .i64 0]) (t := 33) ?hr ?_; (case hd => rfl); (case hg => rfl); (case hr => first | (go_simp; done) | (go_simp; rfl)); intro g17 hg_ wv hbox hb; have G17 := Aside0.mk (Nat.le_trans (below_size HB1.out) (Nat.le_of_eq hg_.symm)); have D17 := Aside0.mk (show g12 ≠ g17 by have := blk_lt B12.out; omega); replace B12 := Aside0.mk (blk_below B12.out hb); have B17 := Aside0.mk hbox; replace HB1 := Aside0.mk (below_step HB1.out hb); clear hbox hg_ hb hq0 hq1 hq2) | ((with_reducible refine gate_store (t := 33) (p := 17) rfl ?_); refine wpList_store_row rfl 33 _ _ rfl g17 #[.int .i64 p0, .int .i64 p1_, .int .i64 p2] rfl rfl 33 #[.int .i64 0, .int .i64 0, .int .i64 0] B17.out (by kernel_rfl) rfl (by first | kernel_rfl | (simp [Value.oneCell']; done) | decide) ?_; replace HB1 := Aside0.mk (below_setRow HB1.out G17.out #[.int .i64 p0, .int .i64 p1_, .int .i64 p2]); replace B12 := Aside0.mk ((setRow_other _ _ _ #[.int .i64 p0, .int .i64 p1_, .int .i64 p2] D17.out).trans B12.out); replace B17 := Aside0.mk (setRow_heap _ _ _ #[.int .i64 p0, .int .i64 p1_, .int .i64 p2] _ _ B17.out); generalize wv.setRow g17 #[.int .i64 p0, .int .i64 p1_, .int .i64 p2] = wv at HB1 B12 B17 ⊢) | ((with_reducible refine gate_dst (N := 97) rfl ?_); refine wpList_load_row rfl 33 (.tmp 17) rfl g17 rfl 33 #[.int .i64 p0, .int .i64 p1_, .int .i64 p2] (0, 0) _ B17.out Try.underlying33 rfl (by kernel_rfl) ?_) | ((with_reducible refine gate_dst (N := 98) rfl ?_); refine wpList_load_row rfl 33 (.tmp 12) rfl g12 rfl 33 #[.int .i64 p0, .int .i64 p1_, .int .i64 p2] (0, 0) _ B12.out Try.underlying33 rfl (by kernel_rfl) ?_))
                  go_roundg (l0.length - (j + 1))
                  case measure => have := HJQ.out; have := HJL.out; omega
                  case rel => exact ⟨j + 1, z - 1, by first | rfl | rw [HWJ.out], by first | rfl | rw [hw1], ⟨by have := HJL.out; omega⟩, ⟨by omega⟩, HZN, B12, HB1⟩
                · have hcn := haulierlaw23_HeapOrder.cnt_n (S := L) (j := j) (by have := HJL.out; have := HLL.out; omega) e
                  obtain ⟨⟨q0, q1, q2⟩, hq⟩ : ∃ q, ri L j = q := ⟨_, rfl⟩
                  rw [hq] at hq0 hq1 hq2 e
                  dsimp only at hq0 hq1 hq2
                  have heq : ∀ w, (binOp .eql 33 (.agg #[.int .i64 q0, .int .i64 q1, .int .i64 q2]) (.agg #[.int .i64 p0, .int .i64 p1_, .int .i64 p2])).run Try.prog w = .ok (.bool false) w := fun w => haulierlaw23_HeapOrder.no33 w q0 q1 q2 p0 p1_ p2 e
                  have HZN := Aside0.mk (show (z = ((S.count (p0, p1_, p2) : Nat) : Int) - (((L.take (j + 1)).count (p0, p1_, p2) : Nat) : Int)) by rw [hcn]; exact HZ.out)
                  clear hcn e hzb hq
                  go_wp2_with (first | ((with_reducible refine gate_dst (N := 17) rfl ?_); refine box_event ?hg (N := 17) ?hd (cs := #[.int .i64 0, .int .i64 0, .int .i64 0]) (t := 33) ?hr ?_; (case hd => rfl); (case hg => rfl); (case hr => first | (go_simp; done) | (go_simp; rfl)); intro g17 hg_ wv hbox hb; have G17 := Aside0.mk (Nat.le_trans (below_size HB1.out) (Nat.le_of_eq hg_.symm)); have D17 := Aside0.mk (show g12 ≠ g17 by have := blk_lt B12.out; omega); replace B12 := Aside0.mk (blk_below B12.out hb); have B17 := Aside0.mk hbox; replace HB1 := Aside0.mk (below_step HB1.out hb); clear hbox hg_ hb hq0 hq1 hq2) | ((with_reducible refine gate_store (t := 33) (p := 17) rfl ?_); refine wpList_store_row rfl 33 _ _ rfl g17 #[.int .i64 q0, .int .i64 q1, .int .i64 q2] rfl rfl 33 #[.int .i64 0, .int .i64 0, .int .i64 0] B17.out (by kernel_rfl) rfl (by first | kernel_rfl | (simp [Value.oneCell']; done) | decide) ?_; replace HB1 := Aside0.mk (below_setRow HB1.out G17.out #[.int .i64 q0, .int .i64 q1, .int .i64 q2]); replace B12 := Aside0.mk ((setRow_other _ _ _ #[.int .i64 q0, .int .i64 q1, .int .i64 q2] D17.out).trans B12.out); replace B17 := Aside0.mk (setRow_heap _ _ _ #[.int .i64 q0, .int .i64 q1, .int .i64 q2] _ _ B17.out); generalize wv.setRow g17 #[.int .i64 q0, .int .i64 q1, .int .i64 q2] = wv at HB1 B12 B17 ⊢) | ((with_reducible refine gate_dst (N := 97) rfl ?_); refine wpList_load_row rfl 33 (.tmp 17) rfl g17 rfl 33 #[.int .i64 q0, .int .i64 q1, .int .i64 q2] (0, 0) _ B17.out Try.underlying33 rfl (by kernel_rfl) ?_) | ((with_reducible refine gate_dst (N := 98) rfl ?_); refine wpList_load_row rfl 33 (.tmp 12) rfl g12 rfl 33 #[.int .i64 p0, .int .i64 p1_, .int .i64 p2] (0, 0) _ B12.out Try.underlying33 rfl (by kernel_rfl) ?_))
                  go_roundg (l0.length - (j + 1))
                  case measure => have := HJQ.out; have := HJL.out; omega
                  case rel => exact ⟨j + 1, z, by first | rfl | rw [HWJ.out], rfl, ⟨by have := HJL.out; omega⟩, ⟨by omega⟩, HZN, B12, HB1⟩
              · obtain rfl : j = l0.length := by have := HJ.out; omega
                have hz := HZ.out
                rw [List.take_of_length_le (by have := HLL.out; omega)] at hz
                rw [HSP.out.count_eq, Int.sub_self] at hz
                subst hz
                clear cj HZ HZS
                (try go_wp2)
                go_roundg (l0.length - (i + 1))
                case measure => have := HKQ.out; have := HIN.out; omega
                case rel => exact ⟨i + 1, by first | rfl | rw [HW2.out], ⟨by have := HIN.out; omega⟩, ⟨by omega⟩, HB1⟩
      · obtain ⟨h, hh⟩ : ∃ h, i = h + 1 := ⟨i - 1, by omega⟩
        have r3_ : ((i : Int) > 0) = True := eq_true (by omega)
        have r4_ : (0 < (i : Int)) = True := eq_true (by omega)
        have r7_ : (0 < i) = True := eq_true (by omega)
        have r8_ : decide ((i : Int) > 0) = true := decide_eq_true (by omega)
        obtain ⟨ad6_, e6_, hs0, hs1, hs2⟩ := at_H HD1.out h (by have := HSL.out; have := HIN.out; omega)
        obtain rfl : ad6 = ad6_ := Option.some.inj e6_
        obtain ⟨⟨s0, s1, s2⟩, hs⟩ : ∃ s, ri S h = s := ⟨_, rfl⟩
        have HLT := Aside0.mk (show lt3 (p0, p1_, p2) (s0, s1, s2) = false by rw [← HPI.out, ← hs]; exact haulierlaw23_HeapOrder.at_sorted HSO.out (by omega) (by have := HSL.out; have := HIN.out; omega))
        rw [hs] at hs0 hs1 hs2
        dsimp only at hs0 hs1 hs2
        have hwi : wrap64 ((i : Int) - 1) = (h : Int) := by have := HL0.out; have := HIN.out; unfold wrap64; omega
        have r5_ : (0 ≤ (h : Int)) = True := eq_true (by omega)
        have r6_ : ((h : Int) < (l0.length : Int)) = True := eq_true (by have := HIN.out; omega)
        clear c0_ hs hh e6_
        go_wp2_with (first | ((with_reducible refine gate_dst (N := 12) rfl ?_); refine box_event ?hg (N := 12) ?hd (cs := #[.int .i64 0, .int .i64 0, .int .i64 0]) (t := 33) ?hr ?_; (case hd => rfl); (case hg => rfl); (case hr => first | (go_simp; done) | (go_simp; rfl)); intro g12 hg_ wv hbox hb; have G12 := Aside0.mk (Nat.le_trans (below_size HB1.out) (Nat.le_of_eq hg_.symm)); have B12 := Aside0.mk hbox; replace HB1 := Aside0.mk (below_step HB1.out hb); clear hbox hg_ hb hd0 hd1 hd2) | ((with_reducible refine gate_store (t := 33) (p := 12) rfl ?_); refine wpList_store_row rfl 33 _ _ rfl g12 #[.int .i64 p0, .int .i64 p1_, .int .i64 p2] rfl rfl 33 #[.int .i64 0, .int .i64 0, .int .i64 0] B12.out (by kernel_rfl) rfl (by first | kernel_rfl | (simp [Value.oneCell']; done) | decide) ?_; replace HB1 := Aside0.mk (below_setRow HB1.out G12.out #[.int .i64 p0, .int .i64 p1_, .int .i64 p2]); replace B12 := Aside0.mk (setRow_heap _ _ _ #[.int .i64 p0, .int .i64 p1_, .int .i64 p2] _ _ B12.out); generalize wv.setRow g12 #[.int .i64 p0, .int .i64 p1_, .int .i64 p2] = wv at HB1 B12 ⊢))
        refine start_ (n := 11) (S := fun w' => w'.cell? ⟨g12, 0, none⟩ = some (.int .i64 p0) ∧ w'.cell? ⟨g12, 1, none⟩ = some (.int .i64 p1_) ∧ w'.cell? ⟨g12, 2, none⟩ = some (.int .i64 p2) ∧ w'.cell? (ad6.add (h * 3)) = some (.int .i64 s0) ∧ w'.cell? ⟨(ad6.add (h * 3)).block, (ad6.add (h * 3)).off + 1, none⟩ = some (.int .i64 s1) ∧ w'.cell? ⟨(ad6.add (h * 3)).block, (ad6.add (h * 3)).off + 2, none⟩ = some (.int .i64 s2)) (ds := []) #[false, false, false, false, false, false, false, false, false, false, false] (by kernel_rfl) rfl rfl ⟨(blk_cell B12.out 0).trans rfl, (blk_cell B12.out 1).trans rfl, (blk_cell B12.out 2).trans rfl, ((HB1.out.cell (World.block_lt_of_cell? w1 _ hs0)).trans hs0), ((HB1.out.cell (World.block_lt_of_cell? w1 _ hs1)).trans hs1), ((HB1.out.cell (World.block_lt_of_cell? w1 _ hs2)).trans hs2)⟩ (fun hHeld => ?_)
        replace HB1 := Aside0.mk (HB1.out.drew)
        replace B12 := Aside0.mk (show wv.drew.heap[g12]? = _ from B12.out)
        generalize wv.drew = wv at HB1 B12 hHeld ⊢
        refine pure_ (i := 0) (N := some 68) (v := ?_) (a' := ?_) #[true, false, false, false, false, false, false, false, false, false, false] rfl rfl (by kernel_rfl) (fun _ _ _ h => h) (Or.inl ⟨by rfl, ?_⟩) ?_ ?_
        rotate_left
        · intro w'
          go_simp
          with_reducible rfl
        rotate_left
        · simp only [Act.put, List.setIfInBounds_toArray, List.set_cons_zero, List.set_cons_succ, i64_w, i32_w]
          rfl
        refine pure_ (i := 1) (N := some 69) (v := ?_) (a' := ?_) #[true, true, false, false, false, false, false, false, false, false, false] rfl rfl (by kernel_rfl) (fun _ _ _ h => h) (Or.inl ⟨by rfl, ?_⟩) ?_ ?_
        rotate_left
        · intro w'
          go_simp
          with_reducible rfl
        rotate_left
        · simp only [Act.put, List.setIfInBounds_toArray, List.set_cons_zero, List.set_cons_succ, i64_w, i32_w]
          rfl
        refine pure_ (i := 2) (N := some 70) (v := ?_) (a' := ?_) #[true, true, true, false, false, false, false, false, false, false, false] rfl rfl (by kernel_rfl) (fun _ _ _ h => h) (Or.inl ⟨by rfl, ?_⟩) ?_ ?_
        rotate_left
        · intro w'
          go_simp
          with_reducible rfl
        rotate_left
        · simp only [Act.put, List.setIfInBounds_toArray, List.set_cons_zero, List.set_cons_succ, i64_w, i32_w]
          rfl
        refine pure_ (i := 4) (N := some 72) (v := ?_) (a' := ?_) #[true, true, true, false, true, false, false, false, false, false, false] rfl rfl (by kernel_rfl) (fun _ _ _ h => h) (Or.inl ⟨by rfl, ?_⟩) ?_ ?_
        rotate_left
        · intro w'
          go_simp
          with_reducible rfl
        rotate_left
        · simp only [Act.put, List.setIfInBounds_toArray, List.set_cons_zero, List.set_cons_succ, i64_w, i32_w]
          rfl
        refine pure_ (i := 5) (N := some 73) (v := ?_) (a' := ?_) #[true, true, true, false, true, true, false, false, false, false, false] rfl rfl (by kernel_rfl) (fun _ _ _ h => h) (Or.inl ⟨by rfl, ?_⟩) ?_ ?_
        rotate_left
        · intro w'
          go_simp
          with_reducible rfl
        rotate_left
        · simp only [Act.put, List.setIfInBounds_toArray, List.set_cons_zero, List.set_cons_succ, i64_w, i32_w]
          rfl
        refine pure_ (i := 6) (N := some 74) (v := ?_) (a' := ?_) #[true, true, true, false, true, true, true, false, false, false, false] rfl rfl (by kernel_rfl) (fun _ _ _ h => h) (Or.inl ⟨by rfl, ?_⟩) ?_ ?_
        rotate_left
        · intro w'
          go_simp
          with_reducible rfl
        rotate_left
        · simp only [Act.put, List.setIfInBounds_toArray, List.set_cons_zero, List.set_cons_succ, i64_w, i32_w]
          rfl
        refine pure_ (i := 7) (N := some 75) (v := ?_) (a' := ?_) #[true, true, true, false, true, true, true, true, false, false, false] rfl rfl (by kernel_rfl) (fun _ _ _ h => h) (Or.inl ⟨by rfl, ?_⟩) ?_ ?_
        rotate_left
        · intro w'
          go_simp
          with_reducible rfl
        rotate_left
        · simp only [Act.put, List.setIfInBounds_toArray, List.set_cons_zero, List.set_cons_succ, i64_w, i32_w]
          rfl
        refine take_ (i := 3) (N := some 71) (v := ?_) (a' := ?_) #[true, true, true, true, true, true, true, true, false, false, false] rfl rfl (by kernel_rfl) (fun _ _ _ h => h) (Or.inl ⟨by rfl, ?_⟩) hHeld ?_ ?_
        rotate_left
        · rintro w' ⟨s0, s1, s2, s3, s4, s5⟩
          go_simp
          with_reducible rfl
        rotate_left
        · simp only [Act.put, List.setIfInBounds_toArray, List.set_cons_zero, List.set_cons_succ, i64_w, i32_w]
          rfl
        refine take_ (i := 8) (N := some 76) (v := ?_) (a' := ?_) #[true, true, true, true, true, true, true, true, true, false, false] rfl rfl (by kernel_rfl) (fun _ _ _ h => h) (Or.inl ⟨by rfl, ?_⟩) hHeld ?_ ?_
        rotate_left
        · rintro w' ⟨s0, s1, s2, s3, s4, s5⟩
          go_simp
          with_reducible rfl
        rotate_left
        · simp only [Act.put, List.setIfInBounds_toArray, List.set_cons_zero, List.set_cons_succ, i64_w, i32_w]
          rfl
        refine one_ (i := 9) (N := some 77) #[true, true, true, true, true, true, true, true, true, true, false] rfl rfl (by kernel_rfl) (by decide) (fun K hK => ?_)
        refine goes_ Try.func12 (by kernel_rfl) rfl #[.agg #[.int .i64 p0, .int .i64 p1_, .int .i64 p2], .agg #[.int .i64 s0, .int .i64 s1, .int .i64 s2]] (by rfl) rfl rfl (by first | rfl | (simp only [List.map_toArray, List.map_cons, List.map_nil]; rfl)) ?_
        with_reducible refine (less_ p0 p1_ p2 s0 s1 s2 _).mono ?_
        rintro e wv ⟨rfl, hb⟩
        rw [HLT.out]
        replace B12 := Aside0.mk (blk_below B12.out hb)
        replace HB1 := Aside0.mk (below_step HB1.out hb)
        clear hb
        refine ⟨_, rfl, ?_⟩
        refine hK.out _ _ ⟨(blk_cell B12.out 0).trans rfl, (blk_cell B12.out 1).trans rfl, (blk_cell B12.out 2).trans rfl, ((HB1.out.cell (World.block_lt_of_cell? w1 _ hs0)).trans hs0), ((HB1.out.cell (World.block_lt_of_cell? w1 _ hs1)).trans hs1), ((HB1.out.cell (World.block_lt_of_cell? w1 _ hs2)).trans hs2)⟩ (fun hHeld => ?_)
        clear hK K
        refine norm_ (a' := ?_) ?_ ?_
        rotate_left
        · show Act.put _ (some 77) _ = _
          simp only [Act.put, List.setIfInBounds_toArray, List.set_cons_zero, List.set_cons_succ, i64_w, i32_w]
          rfl
        refine pure_ (i := 10) (N := some 78) (v := ?_) (a' := ?_) #[true, true, true, true, true, true, true, true, true, true, true] rfl rfl (by kernel_rfl) (fun _ _ _ h => h) (Or.inl ⟨by rfl, ?_⟩) ?_ ?_
        rotate_left
        · intro w'
          go_simp
          with_reducible rfl
        rotate_left
        · simp only [Act.put, List.setIfInBounds_toArray, List.set_cons_zero, List.set_cons_succ, i64_w, i32_w]
          rfl
        refine done_ (by kernel_rfl) ?_
        clear hwi
        (try go_wp2)
        go_loopg [13, 81] l0.length (fun kq v13 v81 w' => ∃ (j : Nat) (z : Int), v81 = .int .i64 (j : Int) ∧ v13 = .int .i64 z ∧ Aside0 (j ≤ l0.length) ∧ Aside0 (l0.length - j ≤ kq) ∧ Aside0 (z = (((S.take j).count (p0, p1_, p2) : Nat) : Int)) ∧ Aside0 (w'.heap[g12]? = some (.cells #[.int .i64 p0, .int .i64 p1_, .int .i64 p2] 33 (0, 0))) ∧ Aside0 (Below w1.heap.size w1 w'))
        case atStart => exact ⟨0, 0, rfl, rfl, ⟨Nat.zero_le _⟩, ⟨by omega⟩, ⟨by simp⟩, B12, HB1⟩
        case round =>
          clear HB1 B12
          obtain ⟨j, z, rfl, rfl, HJ, HJQ, HZ, B12, HB1⟩ := hrel
          by_cases cj : j < l0.length
          · obtain ⟨ad7, e7, hq0, hq1, hq2⟩ := at_H (Kd.C_below HD1.out HB1.out) j (by have := HSL.out; omega)
            cases e7
            have HJL := Aside0.mk cj
            have r1_ : (0 ≤ (j : Int)) = True := eq_true (by omega)
            have r2_ : ((j : Int) < (l0.length : Int)) = True := eq_true (by omega)
            have HWJ := Aside0.mk (show wrap64 ((j : Int) + 1) = ((j + 1 : Nat) : Int) from haulierlaw23_HeapOrder.w64 j (by have := HL0.out; omega))
            have hzb : -100 ≤ z ∧ z ≤ 100 := by
              have h1 := HZ.out
              have h2 : (S.take j).count (p0, p1_, p2) ≤ (S.take j).length := List.count_le_length
              have h3 : S.count (p0, p1_, p2) ≤ S.length := List.count_le_length
              rw [List.length_take] at h2
              have := HSL.out
              have := HL0.out
              omega
            clear cj
            by_cases e : ri S j = (p0, p1_, p2)
            · rw [e] at hq0 hq1 hq2
              dsimp only at hq0 hq1 hq2
              have hcn := haulierlaw23_HeapOrder.cnt_y (S := S) (j := j) (by have := HJL.out; have := HSL.out; omega) e
              have heq : ∀ w, (binOp .eql 33 (.agg #[.int .i64 p0, .int .i64 p1_, .int .i64 p2]) (.agg #[.int .i64 p0, .int .i64 p1_, .int .i64 p2])).run Try.prog w = .ok (.bool true) w := fun w => haulierlaw23_HeapOrder.eq33 w p0 p1_ p2
              have hw1 : wrap64 (z + 1) = z + 1 := by unfold wrap64; omega
              have HZN := Aside0.mk (show (z + 1 = (((S.take (j + 1)).count (p0, p1_, p2) : Nat) : Int)) by rw [hcn]; have := HZ.out; omega)
              clear hcn e hzb
              go_wp2_with (first | ((with_reducible refine gate_dst (N := 15) rfl ?_); refine box_event ?hg (N := 15) ?hd (cs := #[.int .i64 0, .int .i64 0, .int .i64 0]) (t := 33) ?hr ?_; (case hd => rfl); (case hg => rfl); (case hr => first | (go_simp; done) | (go_simp; rfl)); intro g15 hg_ wv hbox hb; have G15 := Aside0.mk (Nat.le_trans (below_size HB1.out) (Nat.le_of_eq hg_.symm)); have D15 := Aside0.mk (show g12 ≠ g15 by have := blk_lt B12.out; omega); replace B12 := Aside0.mk (blk_below B12.out hb); have B15 := Aside0.mk hbox; replace HB1 := Aside0.mk (below_step HB1.out hb); clear hbox hg_ hb hq0 hq1 hq2) | ((with_reducible refine gate_store (t := 33) (p := 15) rfl ?_); refine wpList_store_row rfl 33 _ _ rfl g15 #[.int .i64 p0, .int .i64 p1_, .int .i64 p2] rfl rfl 33 #[.int .i64 0, .int .i64 0, .int .i64 0] B15.out (by kernel_rfl) rfl (by first | kernel_rfl | (simp [Value.oneCell']; done) | decide) ?_; replace HB1 := Aside0.mk (below_setRow HB1.out G15.out #[.int .i64 p0, .int .i64 p1_, .int .i64 p2]); replace B12 := Aside0.mk ((setRow_other _ _ _ #[.int .i64 p0, .int .i64 p1_, .int .i64 p2] D15.out).trans B12.out); replace B15 := Aside0.mk (setRow_heap _ _ _ #[.int .i64 p0, .int .i64 p1_, .int .i64 p2] _ _ B15.out); generalize wv.setRow g15 #[.int .i64 p0, .int .i64 p1_, .int .i64 p2] = wv at HB1 B12 B15 ⊢) | ((with_reducible refine gate_dst (N := 85) rfl ?_); refine wpList_load_row rfl 33 (.tmp 15) rfl g15 rfl 33 #[.int .i64 p0, .int .i64 p1_, .int .i64 p2] (0, 0) _ B15.out Try.underlying33 rfl (by kernel_rfl) ?_) | ((with_reducible refine gate_dst (N := 86) rfl ?_); refine wpList_load_row rfl 33 (.tmp 12) rfl g12 rfl 33 #[.int .i64 p0, .int .i64 p1_, .int .i64 p2] (0, 0) _ B12.out Try.underlying33 rfl (by kernel_rfl) ?_))
              go_roundg (l0.length - (j + 1))
              case measure => have := HJQ.out; have := HJL.out; omega
              case rel => exact ⟨j + 1, z + 1, by first | rfl | rw [HWJ.out], by first | rfl | rw [hw1], ⟨by have := HJL.out; omega⟩, ⟨by omega⟩, HZN, B12, HB1⟩
            · have hcn := haulierlaw23_HeapOrder.cnt_n (S := S) (j := j) (by have := HJL.out; have := HSL.out; omega) e
              obtain ⟨⟨q0, q1, q2⟩, hq⟩ : ∃ q, ri S j = q := ⟨_, rfl⟩
              rw [hq] at hq0 hq1 hq2 e
              dsimp only at hq0 hq1 hq2
              have heq : ∀ w, (binOp .eql 33 (.agg #[.int .i64 q0, .int .i64 q1, .int .i64 q2]) (.agg #[.int .i64 p0, .int .i64 p1_, .int .i64 p2])).run Try.prog w = .ok (.bool false) w := fun w => haulierlaw23_HeapOrder.no33 w q0 q1 q2 p0 p1_ p2 e
              have HZN := Aside0.mk (show (z = (((S.take (j + 1)).count (p0, p1_, p2) : Nat) : Int)) by rw [hcn]; exact HZ.out)
              clear hcn e hzb hq
              go_wp2_with (first | ((with_reducible refine gate_dst (N := 15) rfl ?_); refine box_event ?hg (N := 15) ?hd (cs := #[.int .i64 0, .int .i64 0, .int .i64 0]) (t := 33) ?hr ?_; (case hd => rfl); (case hg => rfl); (case hr => first | (go_simp; done) | (go_simp; rfl)); intro g15 hg_ wv hbox hb; have G15 := Aside0.mk (Nat.le_trans (below_size HB1.out) (Nat.le_of_eq hg_.symm)); have D15 := Aside0.mk (show g12 ≠ g15 by have := blk_lt B12.out; omega); replace B12 := Aside0.mk (blk_below B12.out hb); have B15 := Aside0.mk hbox; replace HB1 := Aside0.mk (below_step HB1.out hb); clear hbox hg_ hb hq0 hq1 hq2) | ((with_reducible refine gate_store (t := 33) (p := 15) rfl ?_); refine wpList_store_row rfl 33 _ _ rfl g15 #[.int .i64 q0, .int .i64 q1, .int .i64 q2] rfl rfl 33 #[.int .i64 0, .int .i64 0, .int .i64 0] B15.out (by kernel_rfl) rfl (by first | kernel_rfl | (simp [Value.oneCell']; done) | decide) ?_; replace HB1 := Aside0.mk (below_setRow HB1.out G15.out #[.int .i64 q0, .int .i64 q1, .int .i64 q2]); replace B12 := Aside0.mk ((setRow_other _ _ _ #[.int .i64 q0, .int .i64 q1, .int .i64 q2] D15.out).trans B12.out); replace B15 := Aside0.mk (setRow_heap _ _ _ #[.int .i64 q0, .int .i64 q1, .int .i64 q2] _ _ B15.out); generalize wv.setRow g15 #[.int .i64 q0, .int .i64 q1, .int .i64 q2] = wv at HB1 B12 B15 ⊢) | ((with_reducible refine gate_dst (N := 85) rfl ?_); refine wpList_load_row rfl 33 (.tmp 15) rfl g15 rfl 33 #[.int .i64 q0, .int .i64 q1, .int .i64 q2] (0, 0) _ B15.out Try.underlying33 rfl (by kernel_rfl) ?_) | ((with_reducible refine gate_dst (N := 86) rfl ?_); refine wpList_load_row rfl 33 (.tmp 12) rfl g12 rfl 33 #[.int .i64 p0, .int .i64 p1_, .int .i64 p2] (0, 0) _ B12.out Try.underlying33 rfl (by kernel_rfl) ?_))
              go_roundg (l0.length - (j + 1))
              case measure => have := HJQ.out; have := HJL.out; omega
              case rel => exact ⟨j + 1, z, by first | rfl | rw [HWJ.out], rfl, ⟨by have := HJL.out; omega⟩, ⟨by omega⟩, HZN, B12, HB1⟩
          · obtain rfl : j = l0.length := by have := HJ.out; omega
            have hz := HZ.out
            rw [List.take_of_length_le (by have := HSL.out; omega)] at hz
            have HZS := Aside0.mk hz
            clear cj hz HZ
            (try go_wp2)
            go_loopg [13, 93] l0.length (fun kq v13 v93 w' => ∃ (j : Nat) (z : Int), v93 = .int .i64 (j : Int) ∧ v13 = .int .i64 z ∧ Aside0 (j ≤ l0.length) ∧ Aside0 (l0.length - j ≤ kq) ∧ Aside0 (z = ((S.count (p0, p1_, p2) : Nat) : Int) - (((L.take j).count (p0, p1_, p2) : Nat) : Int)) ∧ Aside0 (w'.heap[g12]? = some (.cells #[.int .i64 p0, .int .i64 p1_, .int .i64 p2] 33 (0, 0))) ∧ Aside0 (Below w1.heap.size w1 w'))
            case atStart => exact ⟨0, _, rfl, rfl, ⟨Nat.zero_le _⟩, ⟨by omega⟩, ⟨by rw [HZS.out]; simp⟩, B12, HB1⟩
            case round =>
              clear HB1 B12
              obtain ⟨j, z, rfl, rfl, HJ, HJQ, HZ, B12, HB1⟩ := hrel
              by_cases cj : j < l0.length
              · obtain ⟨ad7, e7, hq0, hq1, hq2⟩ := at_H (Kd.C_below HO1.out HB1.out) j (by have := HLL.out; omega)
                cases e7
                have HJL := Aside0.mk cj
                have r1_ : (0 ≤ (j : Int)) = True := eq_true (by omega)
                have r2_ : ((j : Int) < (l0.length : Int)) = True := eq_true (by omega)
                have HWJ := Aside0.mk (show wrap64 ((j : Int) + 1) = ((j + 1 : Nat) : Int) from haulierlaw23_HeapOrder.w64 j (by have := HL0.out; omega))
                have hzb : -100 ≤ z ∧ z ≤ 100 := by
                  have h1 := HZ.out
                  have h2 : (L.take j).count (p0, p1_, p2) ≤ (L.take j).length := List.count_le_length
                  have h3 : S.count (p0, p1_, p2) ≤ S.length := List.count_le_length
                  rw [List.length_take] at h2
                  have := HSL.out
                  have := HL0.out
                  omega
                clear cj
                by_cases e : ri L j = (p0, p1_, p2)
                · rw [e] at hq0 hq1 hq2
                  dsimp only at hq0 hq1 hq2
                  have hcn := haulierlaw23_HeapOrder.cnt_y (S := L) (j := j) (by have := HJL.out; have := HLL.out; omega) e
                  have heq : ∀ w, (binOp .eql 33 (.agg #[.int .i64 p0, .int .i64 p1_, .int .i64 p2]) (.agg #[.int .i64 p0, .int .i64 p1_, .int .i64 p2])).run Try.prog w = .ok (.bool true) w := fun w => haulierlaw23_HeapOrder.eq33 w p0 p1_ p2
                  have hw1 : wrap64 (z - 1) = z - 1 := by unfold wrap64; omega
                  have HZN := Aside0.mk (show (z - 1 = ((S.count (p0, p1_, p2) : Nat) : Int) - (((L.take (j + 1)).count (p0, p1_, p2) : Nat) : Int)) by rw [hcn]; have := HZ.out; omega)
                  clear hcn e hzb
                  go_wp2_with (first | ((with_reducible refine gate_dst (N := 17) rfl ?_); refine box_event ?hg (N := 17) ?hd (cs := #[.int .i64 0, .int .i64 0, .int .i64 0]) (t := 33) ?hr ?_; (case hd => rfl); (case hg => rfl); (case hr => first | (go_simp; done) | (go_simp; rfl)); intro g17 hg_ wv hbox hb; have G17 := Aside0.mk (Nat.le_trans (below_size HB1.out) (Nat.le_of_eq hg_.symm)); have D17 := Aside0.mk (show g12 ≠ g17 by have := blk_lt B12.out; omega); replace B12 := Aside0.mk (blk_below B12.out hb); have B17 := Aside0.mk hbox; replace HB1 := Aside0.mk (below_step HB1.out hb); clear hbox hg_ hb hq0 hq1 hq2) | ((with_reducible refine gate_store (t := 33) (p := 17) rfl ?_); refine wpList_store_row rfl 33 _ _ rfl g17 #[.int .i64 p0, .int .i64 p1_, .int .i64 p2] rfl rfl 33 #[.int .i64 0, .int .i64 0, .int .i64 0] B17.out (by kernel_rfl) rfl (by first | kernel_rfl | (simp [Value.oneCell']; done) | decide) ?_; replace HB1 := Aside0.mk (below_setRow HB1.out G17.out #[.int .i64 p0, .int .i64 p1_, .int .i64 p2]); replace B12 := Aside0.mk ((setRow_other _ _ _ #[.int .i64 p0, .int .i64 p1_, .int .i64 p2] D17.out).trans B12.out); replace B17 := Aside0.mk (setRow_heap _ _ _ #[.int .i64 p0, .int .i64 p1_, .int .i64 p2] _ _ B17.out); generalize wv.setRow g17 #[.int .i64 p0, .int .i64 p1_, .int .i64 p2] = wv at HB1 B12 B17 ⊢) | ((with_reducible refine gate_dst (N := 97) rfl ?_); refine wpList_load_row rfl 33 (.tmp 17) rfl g17 rfl 33 #[.int .i64 p0, .int .i64 p1_, .int .i64 p2] (0, 0) _ B17.out Try.underlying33 rfl (by kernel_rfl) ?_) | ((with_reducible refine gate_dst (N := 98) rfl ?_); refine wpList_load_row rfl 33 (.tmp 12) rfl g12 rfl 33 #[.int .i64 p0, .int .i64 p1_, .int .i64 p2] (0, 0) _ B12.out Try.underlying33 rfl (by kernel_rfl) ?_))
                  go_roundg (l0.length - (j + 1))
                  case measure => have := HJQ.out; have := HJL.out; omega
                  case rel => exact ⟨j + 1, z - 1, by first | rfl | rw [HWJ.out], by first | rfl | rw [hw1], ⟨by have := HJL.out; omega⟩, ⟨by omega⟩, HZN, B12, HB1⟩
                · have hcn := haulierlaw23_HeapOrder.cnt_n (S := L) (j := j) (by have := HJL.out; have := HLL.out; omega) e
                  obtain ⟨⟨q0, q1, q2⟩, hq⟩ : ∃ q, ri L j = q := ⟨_, rfl⟩
                  rw [hq] at hq0 hq1 hq2 e
                  dsimp only at hq0 hq1 hq2
                  have heq : ∀ w, (binOp .eql 33 (.agg #[.int .i64 q0, .int .i64 q1, .int .i64 q2]) (.agg #[.int .i64 p0, .int .i64 p1_, .int .i64 p2])).run Try.prog w = .ok (.bool false) w := fun w => haulierlaw23_HeapOrder.no33 w q0 q1 q2 p0 p1_ p2 e
                  have HZN := Aside0.mk (show (z = ((S.count (p0, p1_, p2) : Nat) : Int) - (((L.take (j + 1)).count (p0, p1_, p2) : Nat) : Int)) by rw [hcn]; exact HZ.out)
                  clear hcn e hzb hq
                  go_wp2_with (first | ((with_reducible refine gate_dst (N := 17) rfl ?_); refine box_event ?hg (N := 17) ?hd (cs := #[.int .i64 0, .int .i64 0, .int .i64 0]) (t := 33) ?hr ?_; (case hd => rfl); (case hg => rfl); (case hr => first | (go_simp; done) | (go_simp; rfl)); intro g17 hg_ wv hbox hb; have G17 := Aside0.mk (Nat.le_trans (below_size HB1.out) (Nat.le_of_eq hg_.symm)); have D17 := Aside0.mk (show g12 ≠ g17 by have := blk_lt B12.out; omega); replace B12 := Aside0.mk (blk_below B12.out hb); have B17 := Aside0.mk hbox; replace HB1 := Aside0.mk (below_step HB1.out hb); clear hbox hg_ hb hq0 hq1 hq2) | ((with_reducible refine gate_store (t := 33) (p := 17) rfl ?_); refine wpList_store_row rfl 33 _ _ rfl g17 #[.int .i64 q0, .int .i64 q1, .int .i64 q2] rfl rfl 33 #[.int .i64 0, .int .i64 0, .int .i64 0] B17.out (by kernel_rfl) rfl (by first | kernel_rfl | (simp [Value.oneCell']; done) | decide) ?_; replace HB1 := Aside0.mk (below_setRow HB1.out G17.out #[.int .i64 q0, .int .i64 q1, .int .i64 q2]); replace B12 := Aside0.mk ((setRow_other _ _ _ #[.int .i64 q0, .int .i64 q1, .int .i64 q2] D17.out).trans B12.out); replace B17 := Aside0.mk (setRow_heap _ _ _ #[.int .i64 q0, .int .i64 q1, .int .i64 q2] _ _ B17.out); generalize wv.setRow g17 #[.int .i64 q0, .int .i64 q1, .int .i64 q2] = wv at HB1 B12 B17 ⊢) | ((with_reducible refine gate_dst (N := 97) rfl ?_); refine wpList_load_row rfl 33 (.tmp 17) rfl g17 rfl 33 #[.int .i64 q0, .int .i64 q1, .int .i64 q2] (0, 0) _ B17.out Try.underlying33 rfl (by kernel_rfl) ?_) | ((with_reducible refine gate_dst (N := 98) rfl ?_); refine wpList_load_row rfl 33 (.tmp 12) rfl g12 rfl 33 #[.int .i64 p0, .int .i64 p1_, .int .i64 p2] (0, 0) _ B12.out Try.underlying33 rfl (by kernel_rfl) ?_))
                  go_roundg (l0.length - (j + 1))
                  case measure => have := HJQ.out; have := HJL.out; omega
                  case rel => exact ⟨j + 1, z, by first | rfl | rw [HWJ.out], rfl, ⟨by have := HJL.out; omega⟩, ⟨by omega⟩, HZN, B12, HB1⟩
              · obtain rfl : j = l0.length := by have := HJ.out; omega
                have hz := HZ.out
                rw [List.take_of_length_le (by have := HLL.out; omega)] at hz
                rw [HSP.out.count_eq, Int.sub_self] at hz
                subst hz
                clear cj HZ HZS
                (try go_wp2)
                go_roundg (l0.length - (i + 1))
                case measure => have := HKQ.out; have := HIN.out; omega
                case rel => exact ⟨i + 1, by first | rfl | rw [HW2.out], ⟨by have := HIN.out; omega⟩, ⟨by omega⟩, HB1⟩
    · obtain rfl : i = l0.length := by have := HI.out; omega
      replace HB := Aside0.mk (below_step HBW.out HB1.out)
      go_wp2_with ((go_at_call 6; (with_reducible refine (alive_ _).mono ?_); rintro e wv ⟨rfl, hb⟩; replace HB := Aside0.mk (below_step HB.out hb); clear hb))
      first | go_ret | go_ret2
      exact ⟨by first | rfl | simp, HB.out⟩
set_option maxHeartbeats 8000000 in
set_option maxRecDepth 100000 in
theorem haulierlaw23_HeapOrder.ee (k : Nat) (A0 : Option Addr) (c0 : Nat) (l0 : List S32) (x0 x1 x2 : Int) (w : World) (hr0 : Kd.C k32 w A0 l0.length l0) (hc0 : l0.length ≤ c0) (h1 : ¬ 60 < l0.length) (hk : 1000 ≤ k) (hxx : lt3 (x0, x1, x2) (x0, x1, x2) = false) : Calls Try.prog 4 #[.slice A0 l0.length c0, .agg #[.int .i64 x0, .int .i64 x1, .int .i64 x2], .agg #[.int .i64 x0, .int .i64 x1, .int .i64 x2]] w fun e w' => e = .returned (.bool true) ∧ Below w.heap.size w w' := by
  have g1 : ((60 : Int) < (l0.length : Int)) = False := eq_false (by omega)
  have g2 : ((l0.length : Int) > 60) = False := eq_false (by omega)
  have HK := Aside0.mk hk
  have HR0 := Aside0.mk hr0
  have HC0 := Aside0.mk hc0
  have HL0 := Aside0.mk (show l0.length ≤ 60 by omega)
  have HXX := Aside0.mk hxx
  clear hr0 hc0 h1 hk
  go_enter Try.func4, Try.ntmps4
  go_wp2_with (first | ((with_reducible refine gate_dst (N := 4) rfl ?_); refine box_event ?hg (N := 4) ?hd (cs := #[.int .i64 x0, .int .i64 x1, .int .i64 x2]) (t := 32) ?hr ?_; (case hd => rfl); (case hg => rfl); (case hr => first | (go_simp; done) | (go_simp; rfl)); intro g4 hg_ wv hbox hb; have B4 := Aside0.mk hbox; have HB := Aside0.mk hb; clear hbox hg_ hb) | ((with_reducible refine gate_dst (N := 5) rfl ?_); refine box_event ?hg (N := 5) ?hd (cs := #[.int .i64 x0, .int .i64 x1, .int .i64 x2]) (t := 32) ?hr ?_; (case hd => rfl); (case hg => rfl); (case hr => first | (go_simp; done) | (go_simp; rfl)); intro g5 hg_ wv hbox hb; replace B4 := Aside0.mk (blk_below B4.out hb); have B5 := Aside0.mk hbox; replace HB := Aside0.mk (below_step HB.out hb); clear hbox hg_ hb))
  refine start_ (n := 6) (S := fun w' => w'.cell? ⟨g4, 0, none⟩ = some (.int .i64 x0) ∧ w'.cell? ⟨g4, 1, none⟩ = some (.int .i64 x1) ∧ w'.cell? ⟨g4, 2, none⟩ = some (.int .i64 x2) ∧ w'.cell? ⟨g5, 0, none⟩ = some (.int .i64 x0) ∧ w'.cell? ⟨g5, 1, none⟩ = some (.int .i64 x1) ∧ w'.cell? ⟨g5, 2, none⟩ = some (.int .i64 x2)) (ds := [5]) #[false, false, false, false, false, false] (by kernel_rfl) rfl rfl ⟨(blk_cell B4.out 0).trans rfl, (blk_cell B4.out 1).trans rfl, (blk_cell B4.out 2).trans rfl, (blk_cell B5.out 0).trans rfl, (blk_cell B5.out 1).trans rfl, (blk_cell B5.out 2).trans rfl⟩ (fun hHeld => ?_)
  replace HB := Aside0.mk (HB.out.drew)
  replace B4 := Aside0.mk (show wv.drew.heap[g4]? = _ from B4.out)
  replace B5 := Aside0.mk (show wv.drew.heap[g5]? = _ from B5.out)
  generalize wv.drew = wv at HB B4 B5 hHeld ⊢
  refine take_ (i := 0) (N := some 22) (v := ?_) (a' := ?_) #[true, false, false, false, false, false] rfl rfl (by kernel_rfl) (fun _ _ _ h => h) (Or.inl ⟨by rfl, ?_⟩) hHeld ?_ ?_
  rotate_left
  · rintro w' ⟨s0, s1, s2, s3, s4, s5⟩
    go_simp
    with_reducible rfl
  rotate_left
  · simp only [Act.put, List.setIfInBounds_toArray, List.set_cons_zero, List.set_cons_succ, i64_w, i32_w]
    rfl
  refine take_ (i := 1) (N := some 23) (v := ?_) (a' := ?_) #[true, true, false, false, false, false] rfl rfl (by kernel_rfl) (fun _ _ _ h => h) (Or.inl ⟨by rfl, ?_⟩) hHeld ?_ ?_
  rotate_left
  · rintro w' ⟨s0, s1, s2, s3, s4, s5⟩
    go_simp
    with_reducible rfl
  rotate_left
  · simp only [Act.put, List.setIfInBounds_toArray, List.set_cons_zero, List.set_cons_succ, i64_w, i32_w]
    rfl
  refine join_ (σ := Nat × Nat) 2 #[true, true, true, true, false, false] (fun s => [(7, .pointer (some ⟨s.1, 0, none⟩)), (8, .pointer (some ⟨s.2, 0, none⟩))]) (fun s w' => w'.heap[s.1]? = some (.cells #[.int .i64 0, .int .i64 0, .int .i64 0] 33 (0, 0)) ∧ w'.heap[s.2]? = some (.cells #[.int .i64 0, .int .i64 0, .int .i64 0] 33 (0, 0)) ∧ s.1 ≠ s.2 ∧ w.heap.size ≤ s.1 ∧ w.heap.size ≤ s.2 ∧ Below w.heap.size w w' ∧ w'.heap[g4]? = some (.cells #[.int .i64 x0, .int .i64 x1, .int .i64 x2] 32 (0, 0)) ∧ w'.heap[g5]? = some (.cells #[.int .i64 x0, .int .i64 x1, .int .i64 x2] 32 (0, 0))) ?_ ?_
  rotate_left
  · intro hCont
    refine two_ (i := 2) (j := 3) (Ni := some 7) (Nj := some 8) #[true, true, true, false, false, false] #[true, true, false, true, false, false] rfl rfl rfl rfl (by kernel_rfl) (by decide) (by decide) (fun K hK => ?_) (fun K hK => ?_)
    · skip
      refine value_ (w1 := wv.alloc (.cells #[.int .i64 0, .int .i64 0, .int .i64 0] 33 (0, 0))) (v := .pointer (some ⟨wv.heap.size, 0, none⟩)) (by rfl) rfl (by first | (go_simp; done) | (go_simp; rfl)) ?_
      have Bx := Aside0.mk (blk_new wv (.cells #[.int .i64 0, .int .i64 0, .int .i64 0] 33 (0, 0)))
      have Sx := Aside0.mk (below_size HB.out)
      replace B4 := Aside0.mk (blk_alloc B4.out (.cells #[.int .i64 0, .int .i64 0, .int .i64 0] 33 (0, 0)))
      replace B5 := Aside0.mk (blk_alloc B5.out (.cells #[.int .i64 0, .int .i64 0, .int .i64 0] 33 (0, 0)))
      replace HB := Aside0.mk (below_alloc HB.out (.cells #[.int .i64 0, .int .i64 0, .int .i64 0] 33 (0, 0)))
      generalize wv.alloc (Obj.cells #[.int .i64 0, .int .i64 0, .int .i64 0] 33 (0, 0)) = we at Bx HB B4 B5 ⊢
      generalize wv.heap.size = sx at Bx Sx  ⊢
      generalize we = wv at Bx HB B4 B5 ⊢
      refine hK.out _ _ ⟨(blk_cell B4.out 0).trans rfl, (blk_cell B4.out 1).trans rfl, (blk_cell B4.out 2).trans rfl, (blk_cell B5.out 0).trans rfl, (blk_cell B5.out 1).trans rfl, (blk_cell B5.out 2).trans rfl⟩ (fun hHeld => ?_)
      clear hK K
      refine norm_ (a' := ?_) ?_ ?_
      rotate_left
      · show Act.put _ (some 7) _ = _
        simp only [Act.put, List.setIfInBounds_toArray, List.set_cons_zero, List.set_cons_succ, i64_w, i32_w]
        rfl
      refine one_ (i := 3) (N := some 8) #[true, true, true, true, false, false] rfl rfl (by kernel_rfl) (by decide) (fun K hK => ?_)
      refine value_ (w1 := wv.alloc (.cells #[.int .i64 0, .int .i64 0, .int .i64 0] 33 (0, 0))) (v := .pointer (some ⟨wv.heap.size, 0, none⟩)) (by rfl) rfl (by first | (go_simp; done) | (go_simp; rfl)) ?_
      have By := Aside0.mk (blk_new wv (.cells #[.int .i64 0, .int .i64 0, .int .i64 0] 33 (0, 0)))
      have NXY := Aside0.mk (Nat.ne_of_lt (blk_lt Bx.out))
      have Sy := Aside0.mk (below_size HB.out)
      replace B4 := Aside0.mk (blk_alloc B4.out (.cells #[.int .i64 0, .int .i64 0, .int .i64 0] 33 (0, 0)))
      replace B5 := Aside0.mk (blk_alloc B5.out (.cells #[.int .i64 0, .int .i64 0, .int .i64 0] 33 (0, 0)))
      replace Bx := Aside0.mk (blk_alloc Bx.out (.cells #[.int .i64 0, .int .i64 0, .int .i64 0] 33 (0, 0)))
      replace HB := Aside0.mk (below_alloc HB.out (.cells #[.int .i64 0, .int .i64 0, .int .i64 0] 33 (0, 0)))
      generalize wv.alloc (Obj.cells #[.int .i64 0, .int .i64 0, .int .i64 0] 33 (0, 0)) = we at By HB B4 B5 Bx ⊢
      generalize wv.heap.size = sy at By Sy NXY ⊢
      generalize we = wv at By HB B4 B5 Bx ⊢
      refine hK.out _ _ ⟨(blk_cell B4.out 0).trans rfl, (blk_cell B4.out 1).trans rfl, (blk_cell B4.out 2).trans rfl, (blk_cell B5.out 0).trans rfl, (blk_cell B5.out 1).trans rfl, (blk_cell B5.out 2).trans rfl⟩ (fun hHeld => ?_)
      clear hK K
      refine norm_ (a' := ?_) ?_ ?_
      rotate_left
      · show Act.put _ (some 8) _ = _
        simp only [Act.put, List.setIfInBounds_toArray, List.set_cons_zero, List.set_cons_succ, i64_w, i32_w]
        rfl
      exact norm_ (by simp only [putAll, Act.put, List.setIfInBounds_toArray, List.set_cons_zero, List.set_cons_succ]) (hCont (sx, sy) _ ⟨Bx.out, By.out, NXY.out, Sx.out, Sy.out, HB.out, B4.out, B5.out⟩)
    · skip
      refine value_ (w1 := wv.alloc (.cells #[.int .i64 0, .int .i64 0, .int .i64 0] 33 (0, 0))) (v := .pointer (some ⟨wv.heap.size, 0, none⟩)) (by rfl) rfl (by first | (go_simp; done) | (go_simp; rfl)) ?_
      have By := Aside0.mk (blk_new wv (.cells #[.int .i64 0, .int .i64 0, .int .i64 0] 33 (0, 0)))
      have Sy := Aside0.mk (below_size HB.out)
      replace B4 := Aside0.mk (blk_alloc B4.out (.cells #[.int .i64 0, .int .i64 0, .int .i64 0] 33 (0, 0)))
      replace B5 := Aside0.mk (blk_alloc B5.out (.cells #[.int .i64 0, .int .i64 0, .int .i64 0] 33 (0, 0)))
      replace HB := Aside0.mk (below_alloc HB.out (.cells #[.int .i64 0, .int .i64 0, .int .i64 0] 33 (0, 0)))
      generalize wv.alloc (Obj.cells #[.int .i64 0, .int .i64 0, .int .i64 0] 33 (0, 0)) = we at By HB B4 B5 ⊢
      generalize wv.heap.size = sy at By Sy  ⊢
      generalize we = wv at By HB B4 B5 ⊢
      refine hK.out _ _ ⟨(blk_cell B4.out 0).trans rfl, (blk_cell B4.out 1).trans rfl, (blk_cell B4.out 2).trans rfl, (blk_cell B5.out 0).trans rfl, (blk_cell B5.out 1).trans rfl, (blk_cell B5.out 2).trans rfl⟩ (fun hHeld => ?_)
      clear hK K
      refine norm_ (a' := ?_) ?_ ?_
      rotate_left
      · show Act.put _ (some 8) _ = _
        simp only [Act.put, List.setIfInBounds_toArray, List.set_cons_zero, List.set_cons_succ, i64_w, i32_w]
        rfl
      refine one_ (i := 2) (N := some 7) #[true, true, true, true, false, false] rfl rfl (by kernel_rfl) (by decide) (fun K hK => ?_)
      refine value_ (w1 := wv.alloc (.cells #[.int .i64 0, .int .i64 0, .int .i64 0] 33 (0, 0))) (v := .pointer (some ⟨wv.heap.size, 0, none⟩)) (by rfl) rfl (by first | (go_simp; done) | (go_simp; rfl)) ?_
      have Bx := Aside0.mk (blk_new wv (.cells #[.int .i64 0, .int .i64 0, .int .i64 0] 33 (0, 0)))
      have NXY := Aside0.mk (Nat.ne_of_lt (blk_lt By.out))
      have Sx := Aside0.mk (below_size HB.out)
      replace B4 := Aside0.mk (blk_alloc B4.out (.cells #[.int .i64 0, .int .i64 0, .int .i64 0] 33 (0, 0)))
      replace B5 := Aside0.mk (blk_alloc B5.out (.cells #[.int .i64 0, .int .i64 0, .int .i64 0] 33 (0, 0)))
      replace By := Aside0.mk (blk_alloc By.out (.cells #[.int .i64 0, .int .i64 0, .int .i64 0] 33 (0, 0)))
      replace HB := Aside0.mk (below_alloc HB.out (.cells #[.int .i64 0, .int .i64 0, .int .i64 0] 33 (0, 0)))
      generalize wv.alloc (Obj.cells #[.int .i64 0, .int .i64 0, .int .i64 0] 33 (0, 0)) = we at Bx HB B4 B5 By ⊢
      generalize wv.heap.size = sx at Bx Sx NXY ⊢
      generalize we = wv at Bx HB B4 B5 By ⊢
      refine hK.out _ _ ⟨(blk_cell B4.out 0).trans rfl, (blk_cell B4.out 1).trans rfl, (blk_cell B4.out 2).trans rfl, (blk_cell B5.out 0).trans rfl, (blk_cell B5.out 1).trans rfl, (blk_cell B5.out 2).trans rfl⟩ (fun hHeld => ?_)
      clear hK K
      refine norm_ (a' := ?_) ?_ ?_
      rotate_left
      · show Act.put _ (some 7) _ = _
        simp only [Act.put, List.setIfInBounds_toArray, List.set_cons_zero, List.set_cons_succ, i64_w, i32_w]
        rfl
      exact norm_ (by simp only [putAll, Act.put, List.setIfInBounds_toArray, List.set_cons_zero, List.set_cons_succ]) (hCont (sx, sy) _ ⟨Bx.out, By.out, NXY.out.symm, Sx.out, Sy.out, HB.out, B4.out, B5.out⟩)
  rintro ⟨gx, gy⟩ wx ⟨BX0, BY0, nxy, SX, SY, HB0, BA0, BB0⟩
  replace HB := Aside0.mk HB0
  have hHeld : (wx.cell? ⟨g4, 0, none⟩ = some (.int .i64 x0) ∧ wx.cell? ⟨g4, 1, none⟩ = some (.int .i64 x1) ∧ wx.cell? ⟨g4, 2, none⟩ = some (.int .i64 x2) ∧ wx.cell? ⟨g5, 0, none⟩ = some (.int .i64 x0) ∧ wx.cell? ⟨g5, 1, none⟩ = some (.int .i64 x1) ∧ wx.cell? ⟨g5, 2, none⟩ = some (.int .i64 x2)) := ⟨(blk_cell BA0 0).trans rfl, (blk_cell BA0 1).trans rfl, (blk_cell BA0 2).trans rfl, (blk_cell BB0 0).trans rfl, (blk_cell BB0 1).trans rfl, (blk_cell BB0 2).trans rfl⟩
  clear HB0 B4 B5
  refine norm_ (a' := ?_) ?_ ?_
  rotate_left
  · simp only [putAll, Act.put, List.setIfInBounds_toArray, List.set_cons_zero, List.set_cons_succ]
    rfl
  refine one_ (i := 4) (N := none) #[true, true, true, true, true, false] rfl rfl (by kernel_rfl) (by decide) (fun K hK => ?_)
  rw [if_pos (by rfl)]
  refine wp_store_row 33 _ _ rfl gx #[.int .i64 x0, .int .i64 x1, .int .i64 x2] rfl rfl 33 #[.int .i64 0, .int .i64 0, .int .i64 0] BX0 (by kernel_rfl) rfl (by first | kernel_rfl | (simp [Value.oneCell']; done) | decide) ?_
  refine hK.out _ _ ⟨(blk_cell ((setRow_other _ _ _ _ (blk_ne BA0 BX0 (by decide))).trans BA0) 0).trans rfl, (blk_cell ((setRow_other _ _ _ _ (blk_ne BA0 BX0 (by decide))).trans BA0) 1).trans rfl, (blk_cell ((setRow_other _ _ _ _ (blk_ne BA0 BX0 (by decide))).trans BA0) 2).trans rfl, (blk_cell ((setRow_other _ _ _ _ (blk_ne BB0 BX0 (by decide))).trans BB0) 0).trans rfl, (blk_cell ((setRow_other _ _ _ _ (blk_ne BB0 BX0 (by decide))).trans BB0) 1).trans rfl, (blk_cell ((setRow_other _ _ _ _ (blk_ne BB0 BX0 (by decide))).trans BB0) 2).trans rfl⟩ (fun hHeld => ?_)
  clear hK K
  refine last_ (i := 5) (N := none) #[true, true, true, true, true, true] rfl rfl (by kernel_rfl) (by decide) (fun K hK => ?_)
  rw [if_pos (by rfl)]
  refine wp_store_row 33 _ _ rfl gy #[.int .i64 x0, .int .i64 x1, .int .i64 x2] rfl rfl 33 #[.int .i64 0, .int .i64 0, .int .i64 0] ((setRow_other _ _ _ _ nxy.symm).trans BY0) (by kernel_rfl) rfl (by first | kernel_rfl | (simp [Value.oneCell']; done) | decide) ?_
  refine hK.out _ _ ?_
  clear hK K
  refine done_ (by kernel_rfl) ?_
  obtain ⟨wq, hwq⟩ : ∃ wq, wq = (wx.setRow gx #[.int .i64 x0, .int .i64 x1, .int .i64 x2]).setRow gy #[.int .i64 x0, .int .i64 x1, .int .i64 x2] := ⟨_, rfl⟩
  rw [← hwq]
  have BX := Aside0.mk (show wq.heap[gx]? = some (.cells #[.int .i64 x0, .int .i64 x1, .int .i64 x2] 33 (0, 0)) by subst hwq; exact (setRow_other _ _ _ _ nxy).trans (setRow_heap _ _ _ _ _ _ BX0))
  have BY := Aside0.mk (show wq.heap[gy]? = some (.cells #[.int .i64 x0, .int .i64 x1, .int .i64 x2] 33 (0, 0)) by subst hwq; exact setRow_heap _ _ _ _ _ _ ((setRow_other _ _ _ _ nxy.symm).trans BY0))
  replace HB := Aside0.mk (show Below w.heap.size w wq by subst hwq; exact below_setRow (below_setRow HB.out SX _) SY _)
  clear hwq hHeld BX0 BY0 BA0 BB0 SX SY nxy
  have hx0 : wq.cell? ⟨gx, 0, none⟩ = some (.int .i64 x0) := (blk_cell BX.out 0).trans rfl
  have hx1 : wq.cell? ⟨gx, 1, none⟩ = some (.int .i64 x1) := (blk_cell BX.out 1).trans rfl
  have hx2 : wq.cell? ⟨gx, 2, none⟩ = some (.int .i64 x2) := (blk_cell BX.out 2).trans rfl
  have hy0 : wq.cell? ⟨gy, 0, none⟩ = some (.int .i64 x0) := (blk_cell BY.out 0).trans rfl
  have hy1 : wq.cell? ⟨gy, 1, none⟩ = some (.int .i64 x1) := (blk_cell BY.out 1).trans rfl
  have hy2 : wq.cell? ⟨gy, 2, none⟩ = some (.int .i64 x2) := (blk_cell BY.out 2).trans rfl
  go_wp2_with (first | (go_at_call 12; (with_reducible refine (less_ x0 x1 x2 x0 x1 x2 _).mono ?_); rintro e wv ⟨rfl, hb⟩; rw [HXX.out]; clear hx0 hx1 hx2 hy0 hy1 hy2; replace BX := Aside0.mk (blk_below BX.out hb); replace BY := Aside0.mk (blk_below BY.out hb); replace HB := Aside0.mk (below_step HB.out hb); clear hb; have hx0 : wv.cell? ⟨gx, 0, none⟩ = some (.int .i64 x0) := (blk_cell BX.out 0).trans rfl; have hx1 : wv.cell? ⟨gx, 1, none⟩ = some (.int .i64 x1) := (blk_cell BX.out 1).trans rfl; have hx2 : wv.cell? ⟨gx, 2, none⟩ = some (.int .i64 x2) := (blk_cell BX.out 2).trans rfl; have hy0 : wv.cell? ⟨gy, 0, none⟩ = some (.int .i64 x0) := (blk_cell BY.out 0).trans rfl; have hy1 : wv.cell? ⟨gy, 1, none⟩ = some (.int .i64 x1) := (blk_cell BY.out 1).trans rfl; have hy2 : wv.cell? ⟨gy, 2, none⟩ = some (.int .i64 x2) := (blk_cell BY.out 2).trans rfl) | (go_at_call 8; (with_reducible refine (haulierlaw23_HeapOrder.givec k A0 c0 l0 _ HK.out HL0.out (Kd.C_below HR0.out HB.out) HC0.out).mono ?_); rintro e wv ⟨A2, c2, rfl, ho, hb⟩; have HO := Aside0.mk ho; clear BX BY hx0 hx1 hx2 hy0 hy1 hy2; replace HB := Aside0.mk (below_step HB.out hb); clear ho hb) | (go_at_call 7; (with_reducible refine (new_n A2 c2 l0.length (l0.map haulierlaw23_HeapOrder.t) (by simp) (by have := HL0.out; omega) _ (Kd.R_reads' HO.out).2.2).mono ?_); rintro e wn ⟨b, v, rfl, hi, hb⟩; have HB0 := Aside0.mk hb; obtain ⟨ys, HS0, HH⟩ : ∃ ys, Aside0 (HS ys (isort (l0.map haulierlaw23_HeapOrder.t))) ∧ Aside0 (IsH wn wv.heap.size b v ys) := ⟨_, ⟨by have h := HS.new (l0.map haulierlaw23_HeapOrder.t); rw [List.length_map] at h; exact h⟩, ⟨hi⟩⟩; have HYL := Aside0.mk (show ys.length = l0.length by have := HS0.out.len; rw [isort_len, List.length_map] at this; omega); obtain ⟨r1, r2, HDR⟩ : ∃ r1 r2, Aside0 (drainL l0.length ys = (r1, r2)) := ⟨_, _, ⟨rfl⟩⟩; have HR1 := Aside0.mk (show r1 = isort (l0.map haulierlaw23_HeapOrder.t) by have h := (Go.Proofs.Ytojaflnejkbjnaa.Hp9.HS.drain (m := l0.length) HS0.out (by have := HS0.out.len; have := HYL.out; omega)).1; rw [HDR.out] at h; replace h : r1 = _ := h; rw [h, List.take_of_length_le (by have := HS0.out.len; have := HYL.out; omega)]); clear hi hb) | (go_at_call 10; (with_reducible refine (drain_ wv.heap.size b v ys (l0.length : Int) l0.length r1 r2 (by have := HYL.out; have := HL0.out; omega) (by have := HYL.out; omega) HDR.out _ HH.out).mono ?_); rintro e w1 ⟨vo, rfl, ho, hg⟩; have HBZ := Aside0.mk (Goes.base HB0.out HH.out hg (Nat.le_refl _)); obtain ⟨A5, c5, e5⟩ := Kd.R_slice ho; rw [show r1.length = l0.length by rw [HR1.out, isort_len, List.length_map]] at e5; subst e5; obtain ⟨S, L, HSO, HSP, HSL, HLL, HD1, HO1⟩ : ∃ S L : List It, Aside0 (S.Pairwise (fun a b => lt3 b a = false)) ∧ Aside0 (S.Perm L) ∧ Aside0 (S.length = l0.length) ∧ Aside0 (L.length = l0.length) ∧ Aside0 (Kd.C kdi w1 A5 S.length S) ∧ Aside0 (Kd.C kdi w1 A2 L.length L) := ⟨r1, l0.map haulierlaw23_HeapOrder.t, ⟨by rw [HR1.out]; exact (haulierlaw23_HeapOrder.sorted_ _).1⟩, ⟨by rw [HR1.out]; exact (haulierlaw23_HeapOrder.sorted_ _).2⟩, ⟨by rw [HR1.out, isort_len, List.length_map]⟩, ⟨by simp⟩, ⟨(Kd.R_reads' ho).2.2⟩, ⟨Kd.C_below (Kd.R_reads' HO.out).2.2 HBZ.out⟩⟩; have HBW := Aside0.mk (below_step HB.out HBZ.out); have HB1 := Aside0.mk (Below.refl w1.heap.size w1); clear ho hg HH HB0 HBZ HB HR1 HDR HS0 HYL HO))
  clear g1 g2
  go_loopg [63] l0.length (fun kq v63 w' => ∃ i : Nat, v63 = .int .i64 (i : Int) ∧ Aside0 (i ≤ l0.length) ∧ Aside0 (l0.length - i ≤ kq) ∧ Aside0 (Below w1.heap.size w1 w'))
  case atStart => exact ⟨0, rfl, ⟨Nat.zero_le _⟩, ⟨by omega⟩, HB1⟩
  case round =>
    clear HB1
    obtain ⟨i, rfl, HI, HKQ, HB1⟩ := hrel
    by_cases ci : i < l0.length
    · obtain ⟨ad6, e6, hd0, hd1, hd2⟩ := at_H (Kd.C_below HD1.out HB1.out) i (by have := HSL.out; omega)
      subst e6
      obtain ⟨⟨p0, p1_, p2⟩, hp⟩ : ∃ p, ri S i = p := ⟨_, rfl⟩
      rw [hp] at hd0 hd1 hd2
      dsimp only at hd0 hd1 hd2
      have HIN := Aside0.mk ci
      have HPI := Aside0.mk hp
      have r1_ : (0 ≤ (i : Int)) = True := eq_true (by omega)
      have r2_ : ((i : Int) < (l0.length : Int)) = True := eq_true (by omega)
      have HW2 := Aside0.mk (show wrap64 ((i : Int) + 1) = ((i + 1 : Nat) : Int) from haulierlaw23_HeapOrder.w64 i (by have := HL0.out; omega))
      clear hp ci
      by_cases c0_ : i = 0
      · have r3_ : ((i : Int) > 0) = False := eq_false (by omega)
        have r4_ : (0 < (i : Int)) = False := eq_false (by omega)
        have r5_ : (0 < i) = False := eq_false (by omega)
        have r6_ : decide ((i : Int) > 0) = false := decide_eq_false (by omega)
        clear c0_
        go_wp2_with (first | ((with_reducible refine gate_dst (N := 12) rfl ?_); refine box_event ?hg (N := 12) ?hd (cs := #[.int .i64 0, .int .i64 0, .int .i64 0]) (t := 33) ?hr ?_; (case hd => rfl); (case hg => rfl); (case hr => first | (go_simp; done) | (go_simp; rfl)); intro g12 hg_ wv hbox hb; have G12 := Aside0.mk (Nat.le_trans (below_size HB1.out) (Nat.le_of_eq hg_.symm)); have B12 := Aside0.mk hbox; replace HB1 := Aside0.mk (below_step HB1.out hb); clear hbox hg_ hb hd0 hd1 hd2) | ((with_reducible refine gate_store (t := 33) (p := 12) rfl ?_); refine wpList_store_row rfl 33 _ _ rfl g12 #[.int .i64 p0, .int .i64 p1_, .int .i64 p2] rfl rfl 33 #[.int .i64 0, .int .i64 0, .int .i64 0] B12.out (by kernel_rfl) rfl (by first | kernel_rfl | (simp [Value.oneCell']; done) | decide) ?_; replace HB1 := Aside0.mk (below_setRow HB1.out G12.out #[.int .i64 p0, .int .i64 p1_, .int .i64 p2]); replace B12 := Aside0.mk (setRow_heap _ _ _ #[.int .i64 p0, .int .i64 p1_, .int .i64 p2] _ _ B12.out); generalize wv.setRow g12 #[.int .i64 p0, .int .i64 p1_, .int .i64 p2] = wv at HB1 B12 ⊢))
        refine start_ (n := 11) (S := fun w' => True) (ds := []) #[false, false, false, false, false, false, false, false, false, false, false] (by kernel_rfl) rfl rfl trivial (fun hHeld => ?_)
        replace HB1 := Aside0.mk (HB1.out.drew)
        replace B12 := Aside0.mk (show wv.drew.heap[g12]? = _ from B12.out)
        generalize wv.drew = wv at HB1 B12 hHeld ⊢
        refine pure_ (i := 0) (N := some 68) (v := ?_) (a' := ?_) #[true, false, false, false, false, false, false, false, false, false, false] rfl rfl (by kernel_rfl) (fun _ _ _ h => h) (Or.inl ⟨by rfl, ?_⟩) ?_ ?_
        rotate_left
        · intro w'
          go_simp
          with_reducible rfl
        rotate_left
        · simp only [Act.put, List.setIfInBounds_toArray, List.set_cons_zero, List.set_cons_succ, i64_w, i32_w]
          rfl
        refine pure_ (i := 1) (N := some 69) (v := ?_) (a' := ?_) #[true, true, false, false, false, false, false, false, false, false, false] rfl rfl (by kernel_rfl) (fun _ _ _ h => h) (Or.inl ⟨by rfl, ?_⟩) ?_ ?_
        rotate_left
        · intro w'
          go_simp
          with_reducible rfl
        rotate_left
        · simp only [Act.put, List.setIfInBounds_toArray, List.set_cons_zero, List.set_cons_succ, i64_w, i32_w]
          rfl
        refine pure_ (i := 2) (N := some 70) (v := ?_) (a' := ?_) #[true, true, true, false, false, false, false, false, false, false, false] rfl rfl (by kernel_rfl) (fun _ _ _ h => h) (Or.inl ⟨by rfl, ?_⟩) ?_ ?_
        rotate_left
        · intro w'
          go_simp
          with_reducible rfl
        rotate_left
        · simp only [Act.put, List.setIfInBounds_toArray, List.set_cons_zero, List.set_cons_succ, i64_w, i32_w]
          rfl
        refine pure_ (i := 3) (N := some 71) (v := undef) (a' := ?_) #[true, true, true, true, false, false, false, false, false, false, false] rfl rfl (by kernel_rfl) (fun _ _ _ h => h) (Or.inr ⟨by rfl, rfl⟩) ?_ ?_
        rotate_left
        · simp only [Act.put, List.setIfInBounds_toArray, List.set_cons_zero, List.set_cons_succ, i64_w, i32_w]
          rfl
        refine pure_ (i := 4) (N := some 72) (v := undef) (a' := ?_) #[true, true, true, true, true, false, false, false, false, false, false] rfl rfl (by kernel_rfl) (fun _ _ _ h => h) (Or.inr ⟨by rfl, rfl⟩) ?_ ?_
        rotate_left
        · simp only [Act.put, List.setIfInBounds_toArray, List.set_cons_zero, List.set_cons_succ, i64_w, i32_w]
          rfl
        refine pure_ (i := 5) (N := some 73) (v := undef) (a' := ?_) #[true, true, true, true, true, true, false, false, false, false, false] rfl rfl (by kernel_rfl) (fun _ _ _ h => h) (Or.inr ⟨by rfl, rfl⟩) ?_ ?_
        rotate_left
        · simp only [Act.put, List.setIfInBounds_toArray, List.set_cons_zero, List.set_cons_succ, i64_w, i32_w]
          rfl
        refine pure_ (i := 6) (N := some 74) (v := undef) (a' := ?_) #[true, true, true, true, true, true, true, false, false, false, false] rfl rfl (by kernel_rfl) (fun _ _ _ h => h) (Or.inr ⟨by rfl, rfl⟩) ?_ ?_
        rotate_left
        · simp only [Act.put, List.setIfInBounds_toArray, List.set_cons_zero, List.set_cons_succ, i64_w, i32_w]
          rfl
        refine pure_ (i := 7) (N := some 75) (v := undef) (a' := ?_) #[true, true, true, true, true, true, true, true, false, false, false] rfl rfl (by kernel_rfl) (fun _ _ _ h => h) (Or.inr ⟨by rfl, rfl⟩) ?_ ?_
        rotate_left
        · simp only [Act.put, List.setIfInBounds_toArray, List.set_cons_zero, List.set_cons_succ, i64_w, i32_w]
          rfl
        refine pure_ (i := 8) (N := some 76) (v := undef) (a' := ?_) #[true, true, true, true, true, true, true, true, true, false, false] rfl rfl (by kernel_rfl) (fun _ _ _ h => h) (Or.inr ⟨by rfl, rfl⟩) ?_ ?_
        rotate_left
        · simp only [Act.put, List.setIfInBounds_toArray, List.set_cons_zero, List.set_cons_succ, i64_w, i32_w]
          rfl
        refine pure_ (i := 9) (N := some 77) (v := undef) (a' := ?_) #[true, true, true, true, true, true, true, true, true, true, false] rfl rfl (by kernel_rfl) (fun _ _ _ h => h) (Or.inr ⟨by rfl, rfl⟩) ?_ ?_
        rotate_left
        · simp only [Act.put, List.setIfInBounds_toArray, List.set_cons_zero, List.set_cons_succ, i64_w, i32_w]
          rfl
        refine pure_ (i := 10) (N := some 78) (v := ?_) (a' := ?_) #[true, true, true, true, true, true, true, true, true, true, true] rfl rfl (by kernel_rfl) (fun _ _ _ h => h) (Or.inl ⟨by rfl, ?_⟩) ?_ ?_
        rotate_left
        · intro w'
          go_simp
          with_reducible rfl
        rotate_left
        · simp only [Act.put, List.setIfInBounds_toArray, List.set_cons_zero, List.set_cons_succ, i64_w, i32_w]
          rfl
        refine done_ (by kernel_rfl) ?_
        (try go_wp2)
        go_loopg [13, 81] l0.length (fun kq v13 v81 w' => ∃ (j : Nat) (z : Int), v81 = .int .i64 (j : Int) ∧ v13 = .int .i64 z ∧ Aside0 (j ≤ l0.length) ∧ Aside0 (l0.length - j ≤ kq) ∧ Aside0 (z = (((S.take j).count (p0, p1_, p2) : Nat) : Int)) ∧ Aside0 (w'.heap[g12]? = some (.cells #[.int .i64 p0, .int .i64 p1_, .int .i64 p2] 33 (0, 0))) ∧ Aside0 (Below w1.heap.size w1 w'))
        case atStart => exact ⟨0, 0, rfl, rfl, ⟨Nat.zero_le _⟩, ⟨by omega⟩, ⟨by simp⟩, B12, HB1⟩
        case round =>
          clear HB1 B12
          obtain ⟨j, z, rfl, rfl, HJ, HJQ, HZ, B12, HB1⟩ := hrel
          by_cases cj : j < l0.length
          · obtain ⟨ad7, e7, hq0, hq1, hq2⟩ := at_H (Kd.C_below HD1.out HB1.out) j (by have := HSL.out; omega)
            cases e7
            have HJL := Aside0.mk cj
            have r1_ : (0 ≤ (j : Int)) = True := eq_true (by omega)
            have r2_ : ((j : Int) < (l0.length : Int)) = True := eq_true (by omega)
            have HWJ := Aside0.mk (show wrap64 ((j : Int) + 1) = ((j + 1 : Nat) : Int) from haulierlaw23_HeapOrder.w64 j (by have := HL0.out; omega))
            have hzb : -100 ≤ z ∧ z ≤ 100 := by
              have h1 := HZ.out
              have h2 : (S.take j).count (p0, p1_, p2) ≤ (S.take j).length := List.count_le_length
              have h3 : S.count (p0, p1_, p2) ≤ S.length := List.count_le_length
              rw [List.length_take] at h2
              have := HSL.out
              have := HL0.out
              omega
            clear cj
            by_cases e : ri S j = (p0, p1_, p2)
            · rw [e] at hq0 hq1 hq2
              dsimp only at hq0 hq1 hq2
              have hcn := haulierlaw23_HeapOrder.cnt_y (S := S) (j := j) (by have := HJL.out; have := HSL.out; omega) e
              have heq : ∀ w, (binOp .eql 33 (.agg #[.int .i64 p0, .int .i64 p1_, .int .i64 p2]) (.agg #[.int .i64 p0, .int .i64 p1_, .int .i64 p2])).run Try.prog w = .ok (.bool true) w := fun w => haulierlaw23_HeapOrder.eq33 w p0 p1_ p2
              have hw1 : wrap64 (z + 1) = z + 1 := by unfold wrap64; omega
              have HZN := Aside0.mk (show (z + 1 = (((S.take (j + 1)).count (p0, p1_, p2) : Nat) : Int)) by rw [hcn]; have := HZ.out; omega)
              clear hcn e hzb
              go_wp2_with (first | ((with_reducible refine gate_dst (N := 15) rfl ?_); refine box_event ?hg (N := 15) ?hd (cs := #[.int .i64 0, .int .i64 0, .int .i64 0]) (t := 33) ?hr ?_; (case hd => rfl); (case hg => rfl); (case hr => first | (go_simp; done) | (go_simp; rfl)); intro g15 hg_ wv hbox hb; have G15 := Aside0.mk (Nat.le_trans (below_size HB1.out) (Nat.le_of_eq hg_.symm)); have D15 := Aside0.mk (show g12 ≠ g15 by have := blk_lt B12.out; omega); replace B12 := Aside0.mk (blk_below B12.out hb); have B15 := Aside0.mk hbox; replace HB1 := Aside0.mk (below_step HB1.out hb); clear hbox hg_ hb hq0 hq1 hq2) | ((with_reducible refine gate_store (t := 33) (p := 15) rfl ?_); refine wpList_store_row rfl 33 _ _ rfl g15 #[.int .i64 p0, .int .i64 p1_, .int .i64 p2] rfl rfl 33 #[.int .i64 0, .int .i64 0, .int .i64 0] B15.out (by kernel_rfl) rfl (by first | kernel_rfl | (simp [Value.oneCell']; done) | decide) ?_; replace HB1 := Aside0.mk (below_setRow HB1.out G15.out #[.int .i64 p0, .int .i64 p1_, .int .i64 p2]); replace B12 := Aside0.mk ((setRow_other _ _ _ #[.int .i64 p0, .int .i64 p1_, .int .i64 p2] D15.out).trans B12.out); replace B15 := Aside0.mk (setRow_heap _ _ _ #[.int .i64 p0, .int .i64 p1_, .int .i64 p2] _ _ B15.out); generalize wv.setRow g15 #[.int .i64 p0, .int .i64 p1_, .int .i64 p2] = wv at HB1 B12 B15 ⊢) | ((with_reducible refine gate_dst (N := 85) rfl ?_); refine wpList_load_row rfl 33 (.tmp 15) rfl g15 rfl 33 #[.int .i64 p0, .int .i64 p1_, .int .i64 p2] (0, 0) _ B15.out Try.underlying33 rfl (by kernel_rfl) ?_) | ((with_reducible refine gate_dst (N := 86) rfl ?_); refine wpList_load_row rfl 33 (.tmp 12) rfl g12 rfl 33 #[.int .i64 p0, .int .i64 p1_, .int .i64 p2] (0, 0) _ B12.out Try.underlying33 rfl (by kernel_rfl) ?_))
              go_roundg (l0.length - (j + 1))
              case measure => have := HJQ.out; have := HJL.out; omega
              case rel => exact ⟨j + 1, z + 1, by first | rfl | rw [HWJ.out], by first | rfl | rw [hw1], ⟨by have := HJL.out; omega⟩, ⟨by omega⟩, HZN, B12, HB1⟩
            · have hcn := haulierlaw23_HeapOrder.cnt_n (S := S) (j := j) (by have := HJL.out; have := HSL.out; omega) e
              obtain ⟨⟨q0, q1, q2⟩, hq⟩ : ∃ q, ri S j = q := ⟨_, rfl⟩
              rw [hq] at hq0 hq1 hq2 e
              dsimp only at hq0 hq1 hq2
              have heq : ∀ w, (binOp .eql 33 (.agg #[.int .i64 q0, .int .i64 q1, .int .i64 q2]) (.agg #[.int .i64 p0, .int .i64 p1_, .int .i64 p2])).run Try.prog w = .ok (.bool false) w := fun w => haulierlaw23_HeapOrder.no33 w q0 q1 q2 p0 p1_ p2 e
              have HZN := Aside0.mk (show (z = (((S.take (j + 1)).count (p0, p1_, p2) : Nat) : Int)) by rw [hcn]; exact HZ.out)
              clear hcn e hzb hq
              go_wp2_with (first | ((with_reducible refine gate_dst (N := 15) rfl ?_); refine box_event ?hg (N := 15) ?hd (cs := #[.int .i64 0, .int .i64 0, .int .i64 0]) (t := 33) ?hr ?_; (case hd => rfl); (case hg => rfl); (case hr => first | (go_simp; done) | (go_simp; rfl)); intro g15 hg_ wv hbox hb; have G15 := Aside0.mk (Nat.le_trans (below_size HB1.out) (Nat.le_of_eq hg_.symm)); have D15 := Aside0.mk (show g12 ≠ g15 by have := blk_lt B12.out; omega); replace B12 := Aside0.mk (blk_below B12.out hb); have B15 := Aside0.mk hbox; replace HB1 := Aside0.mk (below_step HB1.out hb); clear hbox hg_ hb hq0 hq1 hq2) | ((with_reducible refine gate_store (t := 33) (p := 15) rfl ?_); refine wpList_store_row rfl 33 _ _ rfl g15 #[.int .i64 q0, .int .i64 q1, .int .i64 q2] rfl rfl 33 #[.int .i64 0, .int .i64 0, .int .i64 0] B15.out (by kernel_rfl) rfl (by first | kernel_rfl | (simp [Value.oneCell']; done) | decide) ?_; replace HB1 := Aside0.mk (below_setRow HB1.out G15.out #[.int .i64 q0, .int .i64 q1, .int .i64 q2]); replace B12 := Aside0.mk ((setRow_other _ _ _ #[.int .i64 q0, .int .i64 q1, .int .i64 q2] D15.out).trans B12.out); replace B15 := Aside0.mk (setRow_heap _ _ _ #[.int .i64 q0, .int .i64 q1, .int .i64 q2] _ _ B15.out); generalize wv.setRow g15 #[.int .i64 q0, .int .i64 q1, .int .i64 q2] = wv at HB1 B12 B15 ⊢) | ((with_reducible refine gate_dst (N := 85) rfl ?_); refine wpList_load_row rfl 33 (.tmp 15) rfl g15 rfl 33 #[.int .i64 q0, .int .i64 q1, .int .i64 q2] (0, 0) _ B15.out Try.underlying33 rfl (by kernel_rfl) ?_) | ((with_reducible refine gate_dst (N := 86) rfl ?_); refine wpList_load_row rfl 33 (.tmp 12) rfl g12 rfl 33 #[.int .i64 p0, .int .i64 p1_, .int .i64 p2] (0, 0) _ B12.out Try.underlying33 rfl (by kernel_rfl) ?_))
              go_roundg (l0.length - (j + 1))
              case measure => have := HJQ.out; have := HJL.out; omega
              case rel => exact ⟨j + 1, z, by first | rfl | rw [HWJ.out], rfl, ⟨by have := HJL.out; omega⟩, ⟨by omega⟩, HZN, B12, HB1⟩
          · obtain rfl : j = l0.length := by have := HJ.out; omega
            have hz := HZ.out
            rw [List.take_of_length_le (by have := HSL.out; omega)] at hz
            have HZS := Aside0.mk hz
            clear cj hz HZ
            (try go_wp2)
            go_loopg [13, 93] l0.length (fun kq v13 v93 w' => ∃ (j : Nat) (z : Int), v93 = .int .i64 (j : Int) ∧ v13 = .int .i64 z ∧ Aside0 (j ≤ l0.length) ∧ Aside0 (l0.length - j ≤ kq) ∧ Aside0 (z = ((S.count (p0, p1_, p2) : Nat) : Int) - (((L.take j).count (p0, p1_, p2) : Nat) : Int)) ∧ Aside0 (w'.heap[g12]? = some (.cells #[.int .i64 p0, .int .i64 p1_, .int .i64 p2] 33 (0, 0))) ∧ Aside0 (Below w1.heap.size w1 w'))
            case atStart => exact ⟨0, _, rfl, rfl, ⟨Nat.zero_le _⟩, ⟨by omega⟩, ⟨by rw [HZS.out]; simp⟩, B12, HB1⟩
            case round =>
              clear HB1 B12
              obtain ⟨j, z, rfl, rfl, HJ, HJQ, HZ, B12, HB1⟩ := hrel
              by_cases cj : j < l0.length
              · obtain ⟨ad7, e7, hq0, hq1, hq2⟩ := at_H (Kd.C_below HO1.out HB1.out) j (by have := HLL.out; omega)
                cases e7
                have HJL := Aside0.mk cj
                have r1_ : (0 ≤ (j : Int)) = True := eq_true (by omega)
                have r2_ : ((j : Int) < (l0.length : Int)) = True := eq_true (by omega)
                have HWJ := Aside0.mk (show wrap64 ((j : Int) + 1) = ((j + 1 : Nat) : Int) from haulierlaw23_HeapOrder.w64 j (by have := HL0.out; omega))
                have hzb : -100 ≤ z ∧ z ≤ 100 := by
                  have h1 := HZ.out
                  have h2 : (L.take j).count (p0, p1_, p2) ≤ (L.take j).length := List.count_le_length
                  have h3 : S.count (p0, p1_, p2) ≤ S.length := List.count_le_length
                  rw [List.length_take] at h2
                  have := HSL.out
                  have := HL0.out
                  omega
                clear cj
                by_cases e : ri L j = (p0, p1_, p2)
                · rw [e] at hq0 hq1 hq2
                  dsimp only at hq0 hq1 hq2
                  have hcn := haulierlaw23_HeapOrder.cnt_y (S := L) (j := j) (by have := HJL.out; have := HLL.out; omega) e
                  have heq : ∀ w, (binOp .eql 33 (.agg #[.int .i64 p0, .int .i64 p1_, .int .i64 p2]) (.agg #[.int .i64 p0, .int .i64 p1_, .int .i64 p2])).run Try.prog w = .ok (.bool true) w := fun w => haulierlaw23_HeapOrder.eq33 w p0 p1_ p2
                  have hw1 : wrap64 (z - 1) = z - 1 := by unfold wrap64; omega
                  have HZN := Aside0.mk (show (z - 1 = ((S.count (p0, p1_, p2) : Nat) : Int) - (((L.take (j + 1)).count (p0, p1_, p2) : Nat) : Int)) by rw [hcn]; have := HZ.out; omega)
                  clear hcn e hzb
                  go_wp2_with (first | ((with_reducible refine gate_dst (N := 17) rfl ?_); refine box_event ?hg (N := 17) ?hd (cs := #[.int .i64 0, .int .i64 0, .int .i64 0]) (t := 33) ?hr ?_; (case hd => rfl); (case hg => rfl); (case hr => first | (go_simp; done) | (go_simp; rfl)); intro g17 hg_ wv hbox hb; have G17 := Aside0.mk (Nat.le_trans (below_size HB1.out) (Nat.le_of_eq hg_.symm)); have D17 := Aside0.mk (show g12 ≠ g17 by have := blk_lt B12.out; omega); replace B12 := Aside0.mk (blk_below B12.out hb); have B17 := Aside0.mk hbox; replace HB1 := Aside0.mk (below_step HB1.out hb); clear hbox hg_ hb hq0 hq1 hq2) | ((with_reducible refine gate_store (t := 33) (p := 17) rfl ?_); refine wpList_store_row rfl 33 _ _ rfl g17 #[.int .i64 p0, .int .i64 p1_, .int .i64 p2] rfl rfl 33 #[.int .i64 0, .int .i64 0, .int .i64 0] B17.out (by kernel_rfl) rfl (by first | kernel_rfl | (simp [Value.oneCell']; done) | decide) ?_; replace HB1 := Aside0.mk (below_setRow HB1.out G17.out #[.int .i64 p0, .int .i64 p1_, .int .i64 p2]); replace B12 := Aside0.mk ((setRow_other _ _ _ #[.int .i64 p0, .int .i64 p1_, .int .i64 p2] D17.out).trans B12.out); replace B17 := Aside0.mk (setRow_heap _ _ _ #[.int .i64 p0, .int .i64 p1_, .int .i64 p2] _ _ B17.out); generalize wv.setRow g17 #[.int .i64 p0, .int .i64 p1_, .int .i64 p2] = wv at HB1 B12 B17 ⊢) | ((with_reducible refine gate_dst (N := 97) rfl ?_); refine wpList_load_row rfl 33 (.tmp 17) rfl g17 rfl 33 #[.int .i64 p0, .int .i64 p1_, .int .i64 p2] (0, 0) _ B17.out Try.underlying33 rfl (by kernel_rfl) ?_) | ((with_reducible refine gate_dst (N := 98) rfl ?_); refine wpList_load_row rfl 33 (.tmp 12) rfl g12 rfl 33 #[.int .i64 p0, .int .i64 p1_, .int .i64 p2] (0, 0) _ B12.out Try.underlying33 rfl (by kernel_rfl) ?_))
                  go_roundg (l0.length - (j + 1))
                  case measure => have := HJQ.out; have := HJL.out; omega
                  case rel => exact ⟨j + 1, z - 1, by first | rfl | rw [HWJ.out], by first | rfl | rw [hw1], ⟨by have := HJL.out; omega⟩, ⟨by omega⟩, HZN, B12, HB1⟩
                · have hcn := haulierlaw23_HeapOrder.cnt_n (S := L) (j := j) (by have := HJL.out; have := HLL.out; omega) e
                  obtain ⟨⟨q0, q1, q2⟩, hq⟩ : ∃ q, ri L j = q := ⟨_, rfl⟩
                  rw [hq] at hq0 hq1 hq2 e
                  dsimp only at hq0 hq1 hq2
                  have heq : ∀ w, (binOp .eql 33 (.agg #[.int .i64 q0, .int .i64 q1, .int .i64 q2]) (.agg #[.int .i64 p0, .int .i64 p1_, .int .i64 p2])).run Try.prog w = .ok (.bool false) w := fun w => haulierlaw23_HeapOrder.no33 w q0 q1 q2 p0 p1_ p2 e
                  have HZN := Aside0.mk (show (z = ((S.count (p0, p1_, p2) : Nat) : Int) - (((L.take (j + 1)).count (p0, p1_, p2) : Nat) : Int)) by rw [hcn]; exact HZ.out)
                  clear hcn e hzb hq
                  go_wp2_with (first | ((with_reducible refine gate_dst (N := 17) rfl ?_); refine box_event ?hg (N := 17) ?hd (cs := #[.int .i64 0, .int .i64 0, .int .i64 0]) (t := 33) ?hr ?_; (case hd => rfl); (case hg => rfl); (case hr => first | (go_simp; done) | (go_simp; rfl)); intro g17 hg_ wv hbox hb; have G17 := Aside0.mk (Nat.le_trans (below_size HB1.out) (Nat.le_of_eq hg_.symm)); have D17 := Aside0.mk (show g12 ≠ g17 by have := blk_lt B12.out; omega); replace B12 := Aside0.mk (blk_below B12.out hb); have B17 := Aside0.mk hbox; replace HB1 := Aside0.mk (below_step HB1.out hb); clear hbox hg_ hb hq0 hq1 hq2) | ((with_reducible refine gate_store (t := 33) (p := 17) rfl ?_); refine wpList_store_row rfl 33 _ _ rfl g17 #[.int .i64 q0, .int .i64 q1, .int .i64 q2] rfl rfl 33 #[.int .i64 0, .int .i64 0, .int .i64 0] B17.out (by kernel_rfl) rfl (by first | kernel_rfl | (simp [Value.oneCell']; done) | decide) ?_; replace HB1 := Aside0.mk (below_setRow HB1.out G17.out #[.int .i64 q0, .int .i64 q1, .int .i64 q2]); replace B12 := Aside0.mk ((setRow_other _ _ _ #[.int .i64 q0, .int .i64 q1, .int .i64 q2] D17.out).trans B12.out); replace B17 := Aside0.mk (setRow_heap _ _ _ #[.int .i64 q0, .int .i64 q1, .int .i64 q2] _ _ B17.out); generalize wv.setRow g17 #[.int .i64 q0, .int .i64 q1, .int .i64 q2] = wv at HB1 B12 B17 ⊢) | ((with_reducible refine gate_dst (N := 97) rfl ?_); refine wpList_load_row rfl 33 (.tmp 17) rfl g17 rfl 33 #[.int .i64 q0, .int .i64 q1, .int .i64 q2] (0, 0) _ B17.out Try.underlying33 rfl (by kernel_rfl) ?_) | ((with_reducible refine gate_dst (N := 98) rfl ?_); refine wpList_load_row rfl 33 (.tmp 12) rfl g12 rfl 33 #[.int .i64 p0, .int .i64 p1_, .int .i64 p2] (0, 0) _ B12.out Try.underlying33 rfl (by kernel_rfl) ?_))
                  go_roundg (l0.length - (j + 1))
                  case measure => have := HJQ.out; have := HJL.out; omega
                  case rel => exact ⟨j + 1, z, by first | rfl | rw [HWJ.out], rfl, ⟨by have := HJL.out; omega⟩, ⟨by omega⟩, HZN, B12, HB1⟩
              · obtain rfl : j = l0.length := by have := HJ.out; omega
                have hz := HZ.out
                rw [List.take_of_length_le (by have := HLL.out; omega)] at hz
                rw [HSP.out.count_eq, Int.sub_self] at hz
                subst hz
                clear cj HZ HZS
                (try go_wp2)
                go_roundg (l0.length - (i + 1))
                case measure => have := HKQ.out; have := HIN.out; omega
                case rel => exact ⟨i + 1, by first | rfl | rw [HW2.out], ⟨by have := HIN.out; omega⟩, ⟨by omega⟩, HB1⟩
      · obtain ⟨h, hh⟩ : ∃ h, i = h + 1 := ⟨i - 1, by omega⟩
        have r3_ : ((i : Int) > 0) = True := eq_true (by omega)
        have r4_ : (0 < (i : Int)) = True := eq_true (by omega)
        have r7_ : (0 < i) = True := eq_true (by omega)
        have r8_ : decide ((i : Int) > 0) = true := decide_eq_true (by omega)
        obtain ⟨ad6_, e6_, hs0, hs1, hs2⟩ := at_H HD1.out h (by have := HSL.out; have := HIN.out; omega)
        obtain rfl : ad6 = ad6_ := Option.some.inj e6_
        obtain ⟨⟨s0, s1, s2⟩, hs⟩ : ∃ s, ri S h = s := ⟨_, rfl⟩
        have HLT := Aside0.mk (show lt3 (p0, p1_, p2) (s0, s1, s2) = false by rw [← HPI.out, ← hs]; exact haulierlaw23_HeapOrder.at_sorted HSO.out (by omega) (by have := HSL.out; have := HIN.out; omega))
        rw [hs] at hs0 hs1 hs2
        dsimp only at hs0 hs1 hs2
        have hwi : wrap64 ((i : Int) - 1) = (h : Int) := by have := HL0.out; have := HIN.out; unfold wrap64; omega
        have r5_ : (0 ≤ (h : Int)) = True := eq_true (by omega)
        have r6_ : ((h : Int) < (l0.length : Int)) = True := eq_true (by have := HIN.out; omega)
        clear c0_ hs hh e6_
        go_wp2_with (first | ((with_reducible refine gate_dst (N := 12) rfl ?_); refine box_event ?hg (N := 12) ?hd (cs := #[.int .i64 0, .int .i64 0, .int .i64 0]) (t := 33) ?hr ?_; (case hd => rfl); (case hg => rfl); (case hr => first | (go_simp; done) | (go_simp; rfl)); intro g12 hg_ wv hbox hb; have G12 := Aside0.mk (Nat.le_trans (below_size HB1.out) (Nat.le_of_eq hg_.symm)); have B12 := Aside0.mk hbox; replace HB1 := Aside0.mk (below_step HB1.out hb); clear hbox hg_ hb hd0 hd1 hd2) | ((with_reducible refine gate_store (t := 33) (p := 12) rfl ?_); refine wpList_store_row rfl 33 _ _ rfl g12 #[.int .i64 p0, .int .i64 p1_, .int .i64 p2] rfl rfl 33 #[.int .i64 0, .int .i64 0, .int .i64 0] B12.out (by kernel_rfl) rfl (by first | kernel_rfl | (simp [Value.oneCell']; done) | decide) ?_; replace HB1 := Aside0.mk (below_setRow HB1.out G12.out #[.int .i64 p0, .int .i64 p1_, .int .i64 p2]); replace B12 := Aside0.mk (setRow_heap _ _ _ #[.int .i64 p0, .int .i64 p1_, .int .i64 p2] _ _ B12.out); generalize wv.setRow g12 #[.int .i64 p0, .int .i64 p1_, .int .i64 p2] = wv at HB1 B12 ⊢))
        refine start_ (n := 11) (S := fun w' => w'.cell? ⟨g12, 0, none⟩ = some (.int .i64 p0) ∧ w'.cell? ⟨g12, 1, none⟩ = some (.int .i64 p1_) ∧ w'.cell? ⟨g12, 2, none⟩ = some (.int .i64 p2) ∧ w'.cell? (ad6.add (h * 3)) = some (.int .i64 s0) ∧ w'.cell? ⟨(ad6.add (h * 3)).block, (ad6.add (h * 3)).off + 1, none⟩ = some (.int .i64 s1) ∧ w'.cell? ⟨(ad6.add (h * 3)).block, (ad6.add (h * 3)).off + 2, none⟩ = some (.int .i64 s2)) (ds := []) #[false, false, false, false, false, false, false, false, false, false, false] (by kernel_rfl) rfl rfl ⟨(blk_cell B12.out 0).trans rfl, (blk_cell B12.out 1).trans rfl, (blk_cell B12.out 2).trans rfl, ((HB1.out.cell (World.block_lt_of_cell? w1 _ hs0)).trans hs0), ((HB1.out.cell (World.block_lt_of_cell? w1 _ hs1)).trans hs1), ((HB1.out.cell (World.block_lt_of_cell? w1 _ hs2)).trans hs2)⟩ (fun hHeld => ?_)
        replace HB1 := Aside0.mk (HB1.out.drew)
        replace B12 := Aside0.mk (show wv.drew.heap[g12]? = _ from B12.out)
        generalize wv.drew = wv at HB1 B12 hHeld ⊢
        refine pure_ (i := 0) (N := some 68) (v := ?_) (a' := ?_) #[true, false, false, false, false, false, false, false, false, false, false] rfl rfl (by kernel_rfl) (fun _ _ _ h => h) (Or.inl ⟨by rfl, ?_⟩) ?_ ?_
        rotate_left
        · intro w'
          go_simp
          with_reducible rfl
        rotate_left
        · simp only [Act.put, List.setIfInBounds_toArray, List.set_cons_zero, List.set_cons_succ, i64_w, i32_w]
          rfl
        refine pure_ (i := 1) (N := some 69) (v := ?_) (a' := ?_) #[true, true, false, false, false, false, false, false, false, false, false] rfl rfl (by kernel_rfl) (fun _ _ _ h => h) (Or.inl ⟨by rfl, ?_⟩) ?_ ?_
        rotate_left
        · intro w'
          go_simp
          with_reducible rfl
        rotate_left
        · simp only [Act.put, List.setIfInBounds_toArray, List.set_cons_zero, List.set_cons_succ, i64_w, i32_w]
          rfl
        refine pure_ (i := 2) (N := some 70) (v := ?_) (a' := ?_) #[true, true, true, false, false, false, false, false, false, false, false] rfl rfl (by kernel_rfl) (fun _ _ _ h => h) (Or.inl ⟨by rfl, ?_⟩) ?_ ?_
        rotate_left
        · intro w'
          go_simp
          with_reducible rfl
        rotate_left
        · simp only [Act.put, List.setIfInBounds_toArray, List.set_cons_zero, List.set_cons_succ, i64_w, i32_w]
          rfl
        refine pure_ (i := 4) (N := some 72) (v := ?_) (a' := ?_) #[true, true, true, false, true, false, false, false, false, false, false] rfl rfl (by kernel_rfl) (fun _ _ _ h => h) (Or.inl ⟨by rfl, ?_⟩) ?_ ?_
        rotate_left
        · intro w'
          go_simp
          with_reducible rfl
        rotate_left
        · simp only [Act.put, List.setIfInBounds_toArray, List.set_cons_zero, List.set_cons_succ, i64_w, i32_w]
          rfl
        refine pure_ (i := 5) (N := some 73) (v := ?_) (a' := ?_) #[true, true, true, false, true, true, false, false, false, false, false] rfl rfl (by kernel_rfl) (fun _ _ _ h => h) (Or.inl ⟨by rfl, ?_⟩) ?_ ?_
        rotate_left
        · intro w'
          go_simp
          with_reducible rfl
        rotate_left
        · simp only [Act.put, List.setIfInBounds_toArray, List.set_cons_zero, List.set_cons_succ, i64_w, i32_w]
          rfl
        refine pure_ (i := 6) (N := some 74) (v := ?_) (a' := ?_) #[true, true, true, false, true, true, true, false, false, false, false] rfl rfl (by kernel_rfl) (fun _ _ _ h => h) (Or.inl ⟨by rfl, ?_⟩) ?_ ?_
        rotate_left
        · intro w'
          go_simp
          with_reducible rfl
        rotate_left
        · simp only [Act.put, List.setIfInBounds_toArray, List.set_cons_zero, List.set_cons_succ, i64_w, i32_w]
          rfl
        refine pure_ (i := 7) (N := some 75) (v := ?_) (a' := ?_) #[true, true, true, false, true, true, true, true, false, false, false] rfl rfl (by kernel_rfl) (fun _ _ _ h => h) (Or.inl ⟨by rfl, ?_⟩) ?_ ?_
        rotate_left
        · intro w'
          go_simp
          with_reducible rfl
        rotate_left
        · simp only [Act.put, List.setIfInBounds_toArray, List.set_cons_zero, List.set_cons_succ, i64_w, i32_w]
          rfl
        refine take_ (i := 3) (N := some 71) (v := ?_) (a' := ?_) #[true, true, true, true, true, true, true, true, false, false, false] rfl rfl (by kernel_rfl) (fun _ _ _ h => h) (Or.inl ⟨by rfl, ?_⟩) hHeld ?_ ?_
        rotate_left
        · rintro w' ⟨s0, s1, s2, s3, s4, s5⟩
          go_simp
          with_reducible rfl
        rotate_left
        · simp only [Act.put, List.setIfInBounds_toArray, List.set_cons_zero, List.set_cons_succ, i64_w, i32_w]
          rfl
        refine take_ (i := 8) (N := some 76) (v := ?_) (a' := ?_) #[true, true, true, true, true, true, true, true, true, false, false] rfl rfl (by kernel_rfl) (fun _ _ _ h => h) (Or.inl ⟨by rfl, ?_⟩) hHeld ?_ ?_
        rotate_left
        · rintro w' ⟨s0, s1, s2, s3, s4, s5⟩
          go_simp
          with_reducible rfl
        rotate_left
        · simp only [Act.put, List.setIfInBounds_toArray, List.set_cons_zero, List.set_cons_succ, i64_w, i32_w]
          rfl
        refine one_ (i := 9) (N := some 77) #[true, true, true, true, true, true, true, true, true, true, false] rfl rfl (by kernel_rfl) (by decide) (fun K hK => ?_)
        refine goes_ Try.func12 (by kernel_rfl) rfl #[.agg #[.int .i64 p0, .int .i64 p1_, .int .i64 p2], .agg #[.int .i64 s0, .int .i64 s1, .int .i64 s2]] (by rfl) rfl rfl (by first | rfl | (simp only [List.map_toArray, List.map_cons, List.map_nil]; rfl)) ?_
        with_reducible refine (less_ p0 p1_ p2 s0 s1 s2 _).mono ?_
        rintro e wv ⟨rfl, hb⟩
        rw [HLT.out]
        replace B12 := Aside0.mk (blk_below B12.out hb)
        replace HB1 := Aside0.mk (below_step HB1.out hb)
        clear hb
        refine ⟨_, rfl, ?_⟩
        refine hK.out _ _ ⟨(blk_cell B12.out 0).trans rfl, (blk_cell B12.out 1).trans rfl, (blk_cell B12.out 2).trans rfl, ((HB1.out.cell (World.block_lt_of_cell? w1 _ hs0)).trans hs0), ((HB1.out.cell (World.block_lt_of_cell? w1 _ hs1)).trans hs1), ((HB1.out.cell (World.block_lt_of_cell? w1 _ hs2)).trans hs2)⟩ (fun hHeld => ?_)
        clear hK K
        refine norm_ (a' := ?_) ?_ ?_
        rotate_left
        · show Act.put _ (some 77) _ = _
          simp only [Act.put, List.setIfInBounds_toArray, List.set_cons_zero, List.set_cons_succ, i64_w, i32_w]
          rfl
        refine pure_ (i := 10) (N := some 78) (v := ?_) (a' := ?_) #[true, true, true, true, true, true, true, true, true, true, true] rfl rfl (by kernel_rfl) (fun _ _ _ h => h) (Or.inl ⟨by rfl, ?_⟩) ?_ ?_
        rotate_left
        · intro w'
          go_simp
          with_reducible rfl
        rotate_left
        · simp only [Act.put, List.setIfInBounds_toArray, List.set_cons_zero, List.set_cons_succ, i64_w, i32_w]
          rfl
        refine done_ (by kernel_rfl) ?_
        clear hwi
        (try go_wp2)
        go_loopg [13, 81] l0.length (fun kq v13 v81 w' => ∃ (j : Nat) (z : Int), v81 = .int .i64 (j : Int) ∧ v13 = .int .i64 z ∧ Aside0 (j ≤ l0.length) ∧ Aside0 (l0.length - j ≤ kq) ∧ Aside0 (z = (((S.take j).count (p0, p1_, p2) : Nat) : Int)) ∧ Aside0 (w'.heap[g12]? = some (.cells #[.int .i64 p0, .int .i64 p1_, .int .i64 p2] 33 (0, 0))) ∧ Aside0 (Below w1.heap.size w1 w'))
        case atStart => exact ⟨0, 0, rfl, rfl, ⟨Nat.zero_le _⟩, ⟨by omega⟩, ⟨by simp⟩, B12, HB1⟩
        case round =>
          clear HB1 B12
          obtain ⟨j, z, rfl, rfl, HJ, HJQ, HZ, B12, HB1⟩ := hrel
          by_cases cj : j < l0.length
          · obtain ⟨ad7, e7, hq0, hq1, hq2⟩ := at_H (Kd.C_below HD1.out HB1.out) j (by have := HSL.out; omega)
            cases e7
            have HJL := Aside0.mk cj
            have r1_ : (0 ≤ (j : Int)) = True := eq_true (by omega)
            have r2_ : ((j : Int) < (l0.length : Int)) = True := eq_true (by omega)
            have HWJ := Aside0.mk (show wrap64 ((j : Int) + 1) = ((j + 1 : Nat) : Int) from haulierlaw23_HeapOrder.w64 j (by have := HL0.out; omega))
            have hzb : -100 ≤ z ∧ z ≤ 100 := by
              have h1 := HZ.out
              have h2 : (S.take j).count (p0, p1_, p2) ≤ (S.take j).length := List.count_le_length
              have h3 : S.count (p0, p1_, p2) ≤ S.length := List.count_le_length
              rw [List.length_take] at h2
              have := HSL.out
              have := HL0.out
              omega
            clear cj
            by_cases e : ri S j = (p0, p1_, p2)
            · rw [e] at hq0 hq1 hq2
              dsimp only at hq0 hq1 hq2
              have hcn := haulierlaw23_HeapOrder.cnt_y (S := S) (j := j) (by have := HJL.out; have := HSL.out; omega) e
              have heq : ∀ w, (binOp .eql 33 (.agg #[.int .i64 p0, .int .i64 p1_, .int .i64 p2]) (.agg #[.int .i64 p0, .int .i64 p1_, .int .i64 p2])).run Try.prog w = .ok (.bool true) w := fun w => haulierlaw23_HeapOrder.eq33 w p0 p1_ p2
              have hw1 : wrap64 (z + 1) = z + 1 := by unfold wrap64; omega
              have HZN := Aside0.mk (show (z + 1 = (((S.take (j + 1)).count (p0, p1_, p2) : Nat) : Int)) by rw [hcn]; have := HZ.out; omega)
              clear hcn e hzb
              go_wp2_with (first | ((with_reducible refine gate_dst (N := 15) rfl ?_); refine box_event ?hg (N := 15) ?hd (cs := #[.int .i64 0, .int .i64 0, .int .i64 0]) (t := 33) ?hr ?_; (case hd => rfl); (case hg => rfl); (case hr => first | (go_simp; done) | (go_simp; rfl)); intro g15 hg_ wv hbox hb; have G15 := Aside0.mk (Nat.le_trans (below_size HB1.out) (Nat.le_of_eq hg_.symm)); have D15 := Aside0.mk (show g12 ≠ g15 by have := blk_lt B12.out; omega); replace B12 := Aside0.mk (blk_below B12.out hb); have B15 := Aside0.mk hbox; replace HB1 := Aside0.mk (below_step HB1.out hb); clear hbox hg_ hb hq0 hq1 hq2) | ((with_reducible refine gate_store (t := 33) (p := 15) rfl ?_); refine wpList_store_row rfl 33 _ _ rfl g15 #[.int .i64 p0, .int .i64 p1_, .int .i64 p2] rfl rfl 33 #[.int .i64 0, .int .i64 0, .int .i64 0] B15.out (by kernel_rfl) rfl (by first | kernel_rfl | (simp [Value.oneCell']; done) | decide) ?_; replace HB1 := Aside0.mk (below_setRow HB1.out G15.out #[.int .i64 p0, .int .i64 p1_, .int .i64 p2]); replace B12 := Aside0.mk ((setRow_other _ _ _ #[.int .i64 p0, .int .i64 p1_, .int .i64 p2] D15.out).trans B12.out); replace B15 := Aside0.mk (setRow_heap _ _ _ #[.int .i64 p0, .int .i64 p1_, .int .i64 p2] _ _ B15.out); generalize wv.setRow g15 #[.int .i64 p0, .int .i64 p1_, .int .i64 p2] = wv at HB1 B12 B15 ⊢) | ((with_reducible refine gate_dst (N := 85) rfl ?_); refine wpList_load_row rfl 33 (.tmp 15) rfl g15 rfl 33 #[.int .i64 p0, .int .i64 p1_, .int .i64 p2] (0, 0) _ B15.out Try.underlying33 rfl (by kernel_rfl) ?_) | ((with_reducible refine gate_dst (N := 86) rfl ?_); refine wpList_load_row rfl 33 (.tmp 12) rfl g12 rfl 33 #[.int .i64 p0, .int .i64 p1_, .int .i64 p2] (0, 0) _ B12.out Try.underlying33 rfl (by kernel_rfl) ?_))
              go_roundg (l0.length - (j + 1))
              case measure => have := HJQ.out; have := HJL.out; omega
              case rel => exact ⟨j + 1, z + 1, by first | rfl | rw [HWJ.out], by first | rfl | rw [hw1], ⟨by have := HJL.out; omega⟩, ⟨by omega⟩, HZN, B12, HB1⟩
            · have hcn := haulierlaw23_HeapOrder.cnt_n (S := S) (j := j) (by have := HJL.out; have := HSL.out; omega) e
              obtain ⟨⟨q0, q1, q2⟩, hq⟩ : ∃ q, ri S j = q := ⟨_, rfl⟩
              rw [hq] at hq0 hq1 hq2 e
              dsimp only at hq0 hq1 hq2
              have heq : ∀ w, (binOp .eql 33 (.agg #[.int .i64 q0, .int .i64 q1, .int .i64 q2]) (.agg #[.int .i64 p0, .int .i64 p1_, .int .i64 p2])).run Try.prog w = .ok (.bool false) w := fun w => haulierlaw23_HeapOrder.no33 w q0 q1 q2 p0 p1_ p2 e
              have HZN := Aside0.mk (show (z = (((S.take (j + 1)).count (p0, p1_, p2) : Nat) : Int)) by rw [hcn]; exact HZ.out)
              clear hcn e hzb hq
              go_wp2_with (first | ((with_reducible refine gate_dst (N := 15) rfl ?_); refine box_event ?hg (N := 15) ?hd (cs := #[.int .i64 0, .int .i64 0, .int .i64 0]) (t := 33) ?hr ?_; (case hd => rfl); (case hg => rfl); (case hr => first | (go_simp; done) | (go_simp; rfl)); intro g15 hg_ wv hbox hb; have G15 := Aside0.mk (Nat.le_trans (below_size HB1.out) (Nat.le_of_eq hg_.symm)); have D15 := Aside0.mk (show g12 ≠ g15 by have := blk_lt B12.out; omega); replace B12 := Aside0.mk (blk_below B12.out hb); have B15 := Aside0.mk hbox; replace HB1 := Aside0.mk (below_step HB1.out hb); clear hbox hg_ hb hq0 hq1 hq2) | ((with_reducible refine gate_store (t := 33) (p := 15) rfl ?_); refine wpList_store_row rfl 33 _ _ rfl g15 #[.int .i64 q0, .int .i64 q1, .int .i64 q2] rfl rfl 33 #[.int .i64 0, .int .i64 0, .int .i64 0] B15.out (by kernel_rfl) rfl (by first | kernel_rfl | (simp [Value.oneCell']; done) | decide) ?_; replace HB1 := Aside0.mk (below_setRow HB1.out G15.out #[.int .i64 q0, .int .i64 q1, .int .i64 q2]); replace B12 := Aside0.mk ((setRow_other _ _ _ #[.int .i64 q0, .int .i64 q1, .int .i64 q2] D15.out).trans B12.out); replace B15 := Aside0.mk (setRow_heap _ _ _ #[.int .i64 q0, .int .i64 q1, .int .i64 q2] _ _ B15.out); generalize wv.setRow g15 #[.int .i64 q0, .int .i64 q1, .int .i64 q2] = wv at HB1 B12 B15 ⊢) | ((with_reducible refine gate_dst (N := 85) rfl ?_); refine wpList_load_row rfl 33 (.tmp 15) rfl g15 rfl 33 #[.int .i64 q0, .int .i64 q1, .int .i64 q2] (0, 0) _ B15.out Try.underlying33 rfl (by kernel_rfl) ?_) | ((with_reducible refine gate_dst (N := 86) rfl ?_); refine wpList_load_row rfl 33 (.tmp 12) rfl g12 rfl 33 #[.int .i64 p0, .int .i64 p1_, .int .i64 p2] (0, 0) _ B12.out Try.underlying33 rfl (by kernel_rfl) ?_))
              go_roundg (l0.length - (j + 1))
              case measure => have := HJQ.out; have := HJL.out; omega
              case rel => exact ⟨j + 1, z, by first | rfl | rw [HWJ.out], rfl, ⟨by have := HJL.out; omega⟩, ⟨by omega⟩, HZN, B12, HB1⟩
          · obtain rfl : j = l0.length := by have := HJ.out; omega
            have hz := HZ.out
            rw [List.take_of_length_le (by have := HSL.out; omega)] at hz
            have HZS := Aside0.mk hz
            clear cj hz HZ
            (try go_wp2)
            go_loopg [13, 93] l0.length (fun kq v13 v93 w' => ∃ (j : Nat) (z : Int), v93 = .int .i64 (j : Int) ∧ v13 = .int .i64 z ∧ Aside0 (j ≤ l0.length) ∧ Aside0 (l0.length - j ≤ kq) ∧ Aside0 (z = ((S.count (p0, p1_, p2) : Nat) : Int) - (((L.take j).count (p0, p1_, p2) : Nat) : Int)) ∧ Aside0 (w'.heap[g12]? = some (.cells #[.int .i64 p0, .int .i64 p1_, .int .i64 p2] 33 (0, 0))) ∧ Aside0 (Below w1.heap.size w1 w'))
            case atStart => exact ⟨0, _, rfl, rfl, ⟨Nat.zero_le _⟩, ⟨by omega⟩, ⟨by rw [HZS.out]; simp⟩, B12, HB1⟩
            case round =>
              clear HB1 B12
              obtain ⟨j, z, rfl, rfl, HJ, HJQ, HZ, B12, HB1⟩ := hrel
              by_cases cj : j < l0.length
              · obtain ⟨ad7, e7, hq0, hq1, hq2⟩ := at_H (Kd.C_below HO1.out HB1.out) j (by have := HLL.out; omega)
                cases e7
                have HJL := Aside0.mk cj
                have r1_ : (0 ≤ (j : Int)) = True := eq_true (by omega)
                have r2_ : ((j : Int) < (l0.length : Int)) = True := eq_true (by omega)
                have HWJ := Aside0.mk (show wrap64 ((j : Int) + 1) = ((j + 1 : Nat) : Int) from haulierlaw23_HeapOrder.w64 j (by have := HL0.out; omega))
                have hzb : -100 ≤ z ∧ z ≤ 100 := by
                  have h1 := HZ.out
                  have h2 : (L.take j).count (p0, p1_, p2) ≤ (L.take j).length := List.count_le_length
                  have h3 : S.count (p0, p1_, p2) ≤ S.length := List.count_le_length
                  rw [List.length_take] at h2
                  have := HSL.out
                  have := HL0.out
                  omega
                clear cj
                by_cases e : ri L j = (p0, p1_, p2)
                · rw [e] at hq0 hq1 hq2
                  dsimp only at hq0 hq1 hq2
                  have hcn := haulierlaw23_HeapOrder.cnt_y (S := L) (j := j) (by have := HJL.out; have := HLL.out; omega) e
                  have heq : ∀ w, (binOp .eql 33 (.agg #[.int .i64 p0, .int .i64 p1_, .int .i64 p2]) (.agg #[.int .i64 p0, .int .i64 p1_, .int .i64 p2])).run Try.prog w = .ok (.bool true) w := fun w => haulierlaw23_HeapOrder.eq33 w p0 p1_ p2
                  have hw1 : wrap64 (z - 1) = z - 1 := by unfold wrap64; omega
                  have HZN := Aside0.mk (show (z - 1 = ((S.count (p0, p1_, p2) : Nat) : Int) - (((L.take (j + 1)).count (p0, p1_, p2) : Nat) : Int)) by rw [hcn]; have := HZ.out; omega)
                  clear hcn e hzb
                  go_wp2_with (first | ((with_reducible refine gate_dst (N := 17) rfl ?_); refine box_event ?hg (N := 17) ?hd (cs := #[.int .i64 0, .int .i64 0, .int .i64 0]) (t := 33) ?hr ?_; (case hd => rfl); (case hg => rfl); (case hr => first | (go_simp; done) | (go_simp; rfl)); intro g17 hg_ wv hbox hb; have G17 := Aside0.mk (Nat.le_trans (below_size HB1.out) (Nat.le_of_eq hg_.symm)); have D17 := Aside0.mk (show g12 ≠ g17 by have := blk_lt B12.out; omega); replace B12 := Aside0.mk (blk_below B12.out hb); have B17 := Aside0.mk hbox; replace HB1 := Aside0.mk (below_step HB1.out hb); clear hbox hg_ hb hq0 hq1 hq2) | ((with_reducible refine gate_store (t := 33) (p := 17) rfl ?_); refine wpList_store_row rfl 33 _ _ rfl g17 #[.int .i64 p0, .int .i64 p1_, .int .i64 p2] rfl rfl 33 #[.int .i64 0, .int .i64 0, .int .i64 0] B17.out (by kernel_rfl) rfl (by first | kernel_rfl | (simp [Value.oneCell']; done) | decide) ?_; replace HB1 := Aside0.mk (below_setRow HB1.out G17.out #[.int .i64 p0, .int .i64 p1_, .int .i64 p2]); replace B12 := Aside0.mk ((setRow_other _ _ _ #[.int .i64 p0, .int .i64 p1_, .int .i64 p2] D17.out).trans B12.out); replace B17 := Aside0.mk (setRow_heap _ _ _ #[.int .i64 p0, .int .i64 p1_, .int .i64 p2] _ _ B17.out); generalize wv.setRow g17 #[.int .i64 p0, .int .i64 p1_, .int .i64 p2] = wv at HB1 B12 B17 ⊢) | ((with_reducible refine gate_dst (N := 97) rfl ?_); refine wpList_load_row rfl 33 (.tmp 17) rfl g17 rfl 33 #[.int .i64 p0, .int .i64 p1_, .int .i64 p2] (0, 0) _ B17.out Try.underlying33 rfl (by kernel_rfl) ?_) | ((with_reducible refine gate_dst (N := 98) rfl ?_); refine wpList_load_row rfl 33 (.tmp 12) rfl g12 rfl 33 #[.int .i64 p0, .int .i64 p1_, .int .i64 p2] (0, 0) _ B12.out Try.underlying33 rfl (by kernel_rfl) ?_))
                  go_roundg (l0.length - (j + 1))
                  case measure => have := HJQ.out; have := HJL.out; omega
                  case rel => exact ⟨j + 1, z - 1, by first | rfl | rw [HWJ.out], by first | rfl | rw [hw1], ⟨by have := HJL.out; omega⟩, ⟨by omega⟩, HZN, B12, HB1⟩
                · have hcn := haulierlaw23_HeapOrder.cnt_n (S := L) (j := j) (by have := HJL.out; have := HLL.out; omega) e
                  obtain ⟨⟨q0, q1, q2⟩, hq⟩ : ∃ q, ri L j = q := ⟨_, rfl⟩
                  rw [hq] at hq0 hq1 hq2 e
                  dsimp only at hq0 hq1 hq2
                  have heq : ∀ w, (binOp .eql 33 (.agg #[.int .i64 q0, .int .i64 q1, .int .i64 q2]) (.agg #[.int .i64 p0, .int .i64 p1_, .int .i64 p2])).run Try.prog w = .ok (.bool false) w := fun w => haulierlaw23_HeapOrder.no33 w q0 q1 q2 p0 p1_ p2 e
                  have HZN := Aside0.mk (show (z = ((S.count (p0, p1_, p2) : Nat) : Int) - (((L.take (j + 1)).count (p0, p1_, p2) : Nat) : Int)) by rw [hcn]; exact HZ.out)
                  clear hcn e hzb hq
                  go_wp2_with (first | ((with_reducible refine gate_dst (N := 17) rfl ?_); refine box_event ?hg (N := 17) ?hd (cs := #[.int .i64 0, .int .i64 0, .int .i64 0]) (t := 33) ?hr ?_; (case hd => rfl); (case hg => rfl); (case hr => first | (go_simp; done) | (go_simp; rfl)); intro g17 hg_ wv hbox hb; have G17 := Aside0.mk (Nat.le_trans (below_size HB1.out) (Nat.le_of_eq hg_.symm)); have D17 := Aside0.mk (show g12 ≠ g17 by have := blk_lt B12.out; omega); replace B12 := Aside0.mk (blk_below B12.out hb); have B17 := Aside0.mk hbox; replace HB1 := Aside0.mk (below_step HB1.out hb); clear hbox hg_ hb hq0 hq1 hq2) | ((with_reducible refine gate_store (t := 33) (p := 17) rfl ?_); refine wpList_store_row rfl 33 _ _ rfl g17 #[.int .i64 q0, .int .i64 q1, .int .i64 q2] rfl rfl 33 #[.int .i64 0, .int .i64 0, .int .i64 0] B17.out (by kernel_rfl) rfl (by first | kernel_rfl | (simp [Value.oneCell']; done) | decide) ?_; replace HB1 := Aside0.mk (below_setRow HB1.out G17.out #[.int .i64 q0, .int .i64 q1, .int .i64 q2]); replace B12 := Aside0.mk ((setRow_other _ _ _ #[.int .i64 q0, .int .i64 q1, .int .i64 q2] D17.out).trans B12.out); replace B17 := Aside0.mk (setRow_heap _ _ _ #[.int .i64 q0, .int .i64 q1, .int .i64 q2] _ _ B17.out); generalize wv.setRow g17 #[.int .i64 q0, .int .i64 q1, .int .i64 q2] = wv at HB1 B12 B17 ⊢) | ((with_reducible refine gate_dst (N := 97) rfl ?_); refine wpList_load_row rfl 33 (.tmp 17) rfl g17 rfl 33 #[.int .i64 q0, .int .i64 q1, .int .i64 q2] (0, 0) _ B17.out Try.underlying33 rfl (by kernel_rfl) ?_) | ((with_reducible refine gate_dst (N := 98) rfl ?_); refine wpList_load_row rfl 33 (.tmp 12) rfl g12 rfl 33 #[.int .i64 p0, .int .i64 p1_, .int .i64 p2] (0, 0) _ B12.out Try.underlying33 rfl (by kernel_rfl) ?_))
                  go_roundg (l0.length - (j + 1))
                  case measure => have := HJQ.out; have := HJL.out; omega
                  case rel => exact ⟨j + 1, z, by first | rfl | rw [HWJ.out], rfl, ⟨by have := HJL.out; omega⟩, ⟨by omega⟩, HZN, B12, HB1⟩
              · obtain rfl : j = l0.length := by have := HJ.out; omega
                have hz := HZ.out
                rw [List.take_of_length_le (by have := HLL.out; omega)] at hz
                rw [HSP.out.count_eq, Int.sub_self] at hz
                subst hz
                clear cj HZ HZS
                (try go_wp2)
                go_roundg (l0.length - (i + 1))
                case measure => have := HKQ.out; have := HIN.out; omega
                case rel => exact ⟨i + 1, by first | rfl | rw [HW2.out], ⟨by have := HIN.out; omega⟩, ⟨by omega⟩, HB1⟩
    · obtain rfl : i = l0.length := by have := HI.out; omega
      replace HB := Aside0.mk (below_step HBW.out HB1.out)
      go_wp2_with ((go_at_call 6; (with_reducible refine (alive_ _).mono ?_); rintro e wv ⟨rfl, hb⟩; replace HB := Aside0.mk (below_step HB.out hb); clear hb))
      first | go_ret | go_ret2
      exact ⟨by first | rfl | simp, HB.out⟩
theorem haulierlaw23_HeapOrder.calls (k : Nat) (A0 : Option Addr) (c0 : Nat) (l0 : List S32) (x0 x1 x2 y0 y1 y2 : Int) (r : Bool) (w : World) (hr0 : Kd.C k32 w A0 l0.length l0) (hc0 : l0.length ≤ c0) (h : haulierlaw23_HeapOrder.f k l0 x0 x1 x2 y0 y1 y2 = some r) : Calls Try.prog 4 #[.slice A0 l0.length c0, .agg #[.int .i64 x0, .int .i64 x1, .int .i64 x2], .agg #[.int .i64 y0, .int .i64 y1, .int .i64 y2]] w fun e w' => e = .returned (.bool r) ∧ Below w.heap.size w w' := by
  obtain ⟨hk, rfl⟩ := haulierlaw23_HeapOrder.f_true h
  by_cases h1 : 60 < l0.length
  · exact haulierlaw23_HeapOrder.wa A0 c0 l0 x0 x1 x2 y0 y1 y2 w hr0 hc0 h1
  cases hxy : lt3 (x0, x1, x2) (y0, y1, y2) with
  | true => exact haulierlaw23_HeapOrder.tf k A0 c0 l0 x0 x1 x2 y0 y1 y2 w hr0 hc0 h1 hk hxy (lt_asymm hxy)
  | false =>
    cases hyx : lt3 (y0, y1, y2) (x0, x1, x2) with
    | true => exact haulierlaw23_HeapOrder.ft k A0 c0 l0 x0 x1 x2 y0 y1 y2 w hr0 hc0 h1 hk hxy hyx
    | false =>
      have e := le_antisymm3 hyx hxy
      simp only [Prod.mk.injEq] at e
      obtain ⟨rfl, rfl, rfl⟩ := e
      exact haulierlaw23_HeapOrder.ee k A0 c0 l0 x0 x1 x2 w hr0 hc0 h1 hk hxy


def OK32 (x : S32) : Prop := (Lit.int .i64 x.f0).wf = true ∧ ((Lit.int .i64 x.f1).wf = true ∧ ((Lit.int .i64 x.f2).wf = true))
/-- THE ONE PURE STATEMENT of haulierlaw23_HeapOrder. -/
def haulierlaw23_HeapOrder.Pure : Prop := ∀ (l0 : List (S32)) (a1_0 : Int) (a1_1 : Int) (a1_2 : Int) (a2_0 : Int) (a2_1 : Int) (a2_2 : Int), l0.length ≤ maxLen → (∀ x ∈ l0, OK32 x) → (Lit.int .i64 a1_0).wf = true → (Lit.int .i64 a1_1).wf = true → (Lit.int .i64 a1_2).wf = true → (Lit.int .i64 a2_0).wf = true → (Lit.int .i64 a2_1).wf = true → (Lit.int .i64 a2_2).wf = true → ∃ k, haulierlaw23_HeapOrder.f k l0 a1_0 a1_1 a1_2 a2_0 a2_1 a2_2 = some true
end Go.Proofs.Ytojaflnejkbjnaa.MHeapOrder
