/- Written by a program of this session: Go functions that the law HeapDrains reaches, as Lean functions, each with a proof that the Go code comes to just what it says; every input of the kinds that a contract names. -/
import Derived.Test.YtojaflnejkbjnaaMHeapDrainsx0
import Derived.Test.YtojaflnejkbjnaaMHeapDrainsx1
namespace Go.Proofs.Ytojaflnejkbjnaa.MHeapDrains
open Go.RowKit Go.Proofs.YtojaflnejkbjnaaW.PrintWords Go.Proofs.YtojaflnejkbjnaaW.PrintLast Go.Proofs.YtojaflnejkbjnaaW.PrintMore
attribute [local go_sem] max2_int min2_int max_two min_two max_three min_three max_four min_four   -- for this text's walks alone
set_option linter.unusedVariables false
set_option linter.unusedSimpArgs false
set_option linter.unnecessarySimpa false

/-! ### haulierref23_New: function 9 -/
def haulierref23_New.l0 : Nat → List (S32) → List (S32) → Int → Option ((List (S32)))
  | 0, _, _, _ => none
  | k + 1, x0, x3, x4 => if x4 < (x0.length : Int) then (if 0 ≤ x4 then ((haulierref23_Push.f k x3 ((rd_T32 x0 x4).f0) ((rd_T32 x0 x4).f1) ((rd_T32 x0 x4).f2)).bind fun t150 => (haulierref23_New.l0 k x0 t150 (wrap64 (x4 + 1)))) else (none)) else (some x3)
def haulierref23_New.f (k : Nat) (l0 : List (S32)) : Option ((List (S32))) := haulierref23_New.l0 k l0 ([] : List (S32)) 0
theorem haulierref23_New.mono_l : ∀ k, (∀ y0 y1 y2, LeO (haulierref23_New.l0 k y0 y1 y2) (haulierref23_New.l0 (k + 1) y0 y1 y2))
  | 0 => fun _ _ _ r h => by simp [haulierref23_New.l0] at h
  | k + 1 => by
    have ih0 := haulierref23_New.mono_l k
    · intro y0 y1 y2
      unfold haulierref23_New.l0
      repeat' first
      | (with_reducible exact ih0 _ _ _)
      | (with_reducible exact haulierref23_Push.mono _ _ _ _ _)
      | (with_reducible exact LeO.refl _)
      | (with_reducible exact LeO.none _)
      | (with_reducible refine LeO.ite ?_ ?_)
      | (with_reducible refine LeO.bind ?_ (fun _ => ?_))
      | exact ih0 _ _ _
      | exact haulierref23_Push.mono _ _ _ _ _
      | exact LeO.none _
      | refine LeO.ite ?_ ?_
      | refine LeO.bind ?_ (fun _ => ?_)
theorem haulierref23_New.mono : ∀ a0 k, LeO (haulierref23_New.f k a0) (haulierref23_New.f (k + 1) a0) := by
  intro a0 k
  have ih0 := haulierref23_New.mono_l k
  unfold haulierref23_New.f
  repeat' first
      | (with_reducible exact ih0 _ _ _)
      | (with_reducible exact haulierref23_Push.mono _ _ _ _ _)
      | (with_reducible exact LeO.refl _)
      | (with_reducible exact LeO.none _)
      | (with_reducible refine LeO.ite ?_ ?_)
      | (with_reducible refine LeO.bind ?_ (fun _ => ?_))
      | exact ih0 _ _ _
      | exact haulierref23_Push.mono _ _ _ _ _
      | exact LeO.none _
      | refine LeO.ite ?_ ?_
      | refine LeO.bind ?_ (fun _ => ?_)
set_option maxHeartbeats 8000000 in
set_option maxRecDepth 100000 in
theorem haulierref23_New.calls (k : Nat) (A0 : Option Addr) (c0 : Nat) (l0 : List (S32)) (r : List (S32)) (w : World) (hr0 : Kd.C k32 w A0 l0.length l0) (hc0 : l0.length ≤ c0) (h : haulierref23_New.f k l0 = some r) :
    Calls Try.prog 9 #[.slice A0 l0.length c0] w fun e w' => ∃ v0_ : Value, e = .returned (v0_) ∧ Kd.R k32 32 w' w.heap.size (fun _ => True) v0_ r ∧ Below w.heap.size w w' := by
  have hu32 := Try.underlying32
  have HR0 := Aside0.mk hr0
  have HC0 := Aside0.mk hc0
  clear hr0 hc0
  have HB := Aside0.mk (Below.refl w.heap.size w)
  have H : (haulierref23_New.l0 k l0 ([] : List (S32)) 0) = some r := h
  clear h
  have H' := Aside0.mk H
  clear H
  go_enter Try.func9, Try.ntmps9
  go_wp2
  go_loopg [3, 4] k (fun kq v3 v4 w' => ∃ (x3_1 : List (S32)) (x4_1 : Int), v4 = .int .i64 x4_1 ∧ Aside0 (haulierref23_New.l0 kq l0 x3_1 x4_1 = some r) ∧ Aside0 (kq ≤ k) ∧ Aside0 (Kd.R k32 32 w' w.heap.size (fun _ => True) v3 x3_1) ∧ Aside0 (Below w.heap.size w w'))
  case atStart => exact ⟨(([] : List (S32))), (0), (by first | rfl | (simp; done) | (simp [*]; done)), H', ⟨Nat.le_refl _⟩, ⟨by first | exact Kd.R_nil _ _ _ _ _ | exact Kd.N_nil _ _ _ _ _ | exact Kd.V_nil _ _ _ _ _ | exact Kd.Q_nil _ _ _ _ _ | exact Kd.S_nil _ _ _ _ _⟩, ⟨by repeat (first | (with_reducible first | exact HB.out | apply below_alloc | apply pw_below_drewN | apply below_drew1) | exact HB.out)⟩⟩
  case round =>
    clear H'
    obtain ⟨x3_1, x4_1, rfl, HA, HK1, HO_3, HB⟩ := hrel
    cases gk with
    | zero => exact absurd HA.out (by simp [haulierref23_New.l0])
    | succ k1 =>
      have H := HA.out
      clear HA
      simp only [haulierref23_New.l0] at H
      by_cases c2 : x4_1 < (l0.length : Int)
      · rw [if_pos c2] at H
        have c2b0 : decide (x4_1 < (l0.length : Int)) = true := decide_eq_true c2
        clear c2
        by_cases c3 : 0 ≤ x4_1
        · rw [if_pos c3] at H
          have c3b0 : decide (0 ≤ x4_1) = true := decide_eq_true c3
          clear c3
          replace H := Option.bind_eq_some_iff.mp H
          obtain ⟨t150, A40, H⟩ := H
          replace H : (haulierref23_New.l0 k1 l0 t150 (wrap64 (x4_1 + 1))) = some r := H
          have A4 := Aside0.mk A40
          clear A40
          have H' := Aside0.mk H
          clear H
          have p149 : 0 ≤ (x4_1 : Int) := of_decide_eq_true (by first | (with_reducible assumption) | assumption)
          have q149 : x4_1 < (l0.length : Int) := of_decide_eq_true (by first | (with_reducible assumption) | assumption)
          obtain ⟨ad149, e149, hx149_0, hx149_1, hx149_2⟩ := at_T32 HR0.out x4_1 p149 q149
          cases e149
          try replace hx149_0 := (HB.out.cell (World.block_lt_of_cell? w _ hx149_0)).trans hx149_0
          try replace hx149_1 := (HB.out.cell (World.block_lt_of_cell? w _ hx149_1)).trans hx149_1
          try replace hx149_2 := (HB.out.cell (World.block_lt_of_cell? w _ hx149_2)).trans hx149_2
          replace p149 := eq_true p149
          replace q149 := eq_true q149
          obtain ⟨Ao5, co5, eo5⟩ := Kd.R_slice HO_3.out
          subst eo5
          go_wp2_with (first | ((with_reducible refine gate_callee (f := 16) rfl ?_); refine goesL_ (some 16) rfl rfl Try.func16 (by kernel_rfl) rfl #[.slice Ao5 x3_1.length co5, .agg #[.int .i64 ((rd_T32 l0 x4_1).f0), .int .i64 ((rd_T32 l0 x4_1).f1), .int .i64 ((rd_T32 l0 x4_1).f2)]] rfl (by (try simp only [List.map_toArray, List.map_cons, List.map_nil]); first | done | rfl | (simp only [List.length_drop, List.length_take]; rfl)) ?_; (with_reducible refine (haulierref23_Push.calls k1 _ _ x3_1 ((rd_T32 l0 x4_1).f0) ((rd_T32 l0 x4_1).f1) ((rd_T32 l0 x4_1).f2) t150 _ ?side1 ?side2 A4.out).mono ?_); (case side1 => repeat (first | exact (Kd.R_reads' HO_3.out).2.2 | (with_reducible refine Kd.C_alloc ?_ _) | (with_reducible refine Kd.C_drewN ?_ _) | (with_reducible refine Kd.C_drew ?_))); (case side2 => exact (Kd.R_reads' HO_3.out).2.1); rintro e w6 ⟨v151, rfl, ho0, hb⟩; refine ⟨_, rfl, ?_⟩; have n0_ := Aside0.mk (Kd.R_elder' (by (with_reducible repeat (first | apply Kd.R_alloc | apply Kd.R_drewN | apply Kd.R_drew)); exact HO_3.out) (Kd.R_base ho0) hb); have n1_ := Aside0.mk (Kd.R_lower (Kd.R_new' ho0 (Kd.R_lt (by (with_reducible repeat (first | apply Kd.R_alloc | apply Kd.R_drewN | apply Kd.R_drew)); exact HO_3.out))) (below_size (by repeat (first | (with_reducible first | exact HB.out | apply below_alloc | apply pw_below_drewN | apply below_drew1) | exact HB.out)))); have n2_ := Aside0.mk (below_step (by repeat (first | (with_reducible first | exact HB.out | apply below_alloc | apply pw_below_drewN | apply below_drew1) | exact HB.out)) hb); clear HO_3; clear HB; have HO_3 := n0_; have HO152 := n1_; have HB := n2_; clear n0_ n1_ n2_; (try clear hb); (try clear hb2); (try clear hk); (try clear hi); (try clear ho0)))
          go_roundg k1
          case measure => have := HK1.out; omega
          case rel => exact ⟨(t150), (wrap64 (x4_1 + 1)), (by first | rfl | (simp; done) | (simp [*]; done)), H', ⟨by have := HK1.out; omega⟩, ⟨by (with_reducible repeat (first | apply Kd.R_alloc | apply Kd.R_drewN | apply Kd.R_drew)); exact Kd.R_mono HO152.out (fun _ hk => trivial)⟩, ⟨by repeat (first | (with_reducible first | exact HB.out | apply below_alloc | apply pw_below_drewN | apply below_drew1) | exact HB.out)⟩⟩
        · rw [if_neg c3] at H
          exact absurd H (by simp)
      · rw [if_neg c2] at H
        have c2b0 : decide (x4_1 < (l0.length : Int)) = false := decide_eq_false c2
        clear c2
        obtain rfl := Option.some.inj H
        go_wp2
        go_ret
        exact ⟨_, by first | rfl | (simp [errW_none, errW_some] <;> rfl) | (simp [*, errW_none, errW_some] <;> rfl), by (with_reducible repeat (first | apply Kd.R_alloc | apply Kd.R_drewN | apply Kd.R_drew)); exact HO_3.out, by repeat (first | (with_reducible first | exact HB.out | apply below_alloc | apply pw_below_drewN | apply below_drew1) | exact HB.out)⟩

-- NOT PRINTED: function 22 (heap_Pop)

-- NOT PRINTED: function 14 (heap_Heap_Pop)

-- NOT PRINTED: function 10 (heap_Heap_Drain)

/-! ### haulierlaw23_HeapDrains: function 3 (typed by hand) -/
open Go.Proofs.Ytojaflnejkbjnaa.Hp1 Go.Proofs.Ytojaflnejkbjnaa.Hp2 Go.Proofs.Ytojaflnejkbjnaa.Hp3 Go.Proofs.Ytojaflnejkbjnaa.Hp4 Go.Proofs.Ytojaflnejkbjnaa.Hp5 Go.Proofs.Ytojaflnejkbjnaa.Hp6 Go.Proofs.Ytojaflnejkbjnaa.Hp7 Go.Proofs.Ytojaflnejkbjnaa.Hp8 Go.Proofs.Ytojaflnejkbjnaa.Hp9 Go.Proofs.Ytojaflnejkbjnaa.Hp10 Go.Proofs.Ytojaflnejkbjnaa.Hp11 Go.Proofs.Ytojaflnejkbjnaa.Hp12
attribute [local go_sem] ne32
theorem haulierlaw23_HeapDrains.R_map {β : Type} {f : β → It} {e : Nat} {w : World} {base : Nat} {ok : Nat → Prop} {v : Value} {xs : List β} (h : Kd.R (Kd.iso kdi f) e w base ok v xs) : Kd.R kdi e w base ok v (xs.map f) := by
  obtain ⟨h0, inner, ho, hr⟩ := h
  refine ⟨h0, inner, by rw [List.length_map]; exact ho, by rw [List.length_map]; exact hr.1, fun j p hj => ?_⟩
  rw [List.getElem?_map] at hj
  obtain ⟨q, hq, rfl⟩ := Option.map_eq_some_iff.1 hj
  exact hr.2 j q hq
def haulierlaw23_HeapDrains.t (x : S32) : It := (x.f0, x.f1, x.f2)
def haulierlaw23_HeapDrains.t3 (x : S33) : It := (x.f0, x.f1, x.f2)
theorem haulierlaw23_HeapDrains.w64 (i : Nat) (h : i ≤ 1000) : wrap64 ((i : Int) + 1) = ((i + 1 : Nat) : Int) := by
  unfold wrap64
  omega
theorem haulierlaw23_HeapDrains.rd_ {l : List S32} {i : Nat} (h : i < l.length) : rd_T32 l (i : Int) = l[i] := by
  unfold rd_T32
  simp [h]
theorem haulierlaw23_HeapDrains.give_l (l : List S32) (hl : l.length ≤ 60) : ∀ d k i x3, l.length - i ≤ d → d < k → i ≤ l.length → x3.length = i → haulierlaw23_give.l0 k x3 l (l.length : Int) (i : Int) = some (x3 ++ (l.drop i).map (fun x => (⟨x.f0, x.f1, x.f2⟩ : S33))) := by
  intro d
  induction d with
  | zero =>
    intro k i x3 h hk hi hx
    obtain ⟨k, rfl⟩ : ∃ q, k = q + 1 := ⟨k - 1, by omega⟩
    rw [haulierlaw23_give.l0, if_neg (by omega), List.drop_of_length_le (by omega)]
    simp
  | succ d ih =>
    intro k i x3 h hk hi hx
    obtain ⟨k, rfl⟩ : ∃ q, k = q + 1 := ⟨k - 1, by omega⟩
    by_cases c : i < l.length
    · rw [haulierlaw23_give.l0, if_pos (by omega), if_pos (by omega), if_pos (by omega), if_pos (by omega), haulierlaw23_HeapDrains.w64 i (by omega), haulierlaw23_HeapDrains.rd_ c, ih k (i + 1) _ (by omega) (by omega) (by omega) (by simp [hx]), List.drop_eq_getElem_cons c]
      simp only [List.map_cons, List.append_assoc, List.singleton_append]
    · rw [haulierlaw23_give.l0, if_neg (by omega), List.drop_of_length_le (by omega)]
      simp
theorem haulierlaw23_HeapDrains.give_ (k : Nat) (l : List S32) (hk : 1000 ≤ k) (hl : l.length ≤ 60) : ∃ r, haulierlaw23_give.f k l = some r ∧ r.map haulierlaw23_HeapDrains.t3 = l.map haulierlaw23_HeapDrains.t := by
  refine ⟨_, haulierlaw23_HeapDrains.give_l l hl l.length k 0 [] (by omega) (by omega) (by omega) rfl, ?_⟩
  simp [haulierlaw23_HeapDrains.t3, haulierlaw23_HeapDrains.t]
theorem haulierlaw23_HeapDrains.givec (k : Nat) (A : Option Addr) (c : Nat) (l : List S32) (w : World) (hk : 1000 ≤ k) (hl : l.length ≤ 60) (hr : Kd.C k32 w A l.length l) (hc : l.length ≤ c) : Calls Try.prog 8 #[.slice A l.length c] w fun e w' => ∃ A1 c1, e = .returned (.slice A1 l.length c1) ∧ Kd.R kdi 33 w' w.heap.size (fun _ => True) (.slice A1 l.length c1) (l.map haulierlaw23_HeapDrains.t) ∧ Below w.heap.size w w' := by
  obtain ⟨r, h1, h2⟩ := haulierlaw23_HeapDrains.give_ k l hk hl
  refine (haulierlaw23_give.calls k A c l r w hr hc h1).mono ?_
  rintro e w' ⟨v, rfl, ho, hb⟩
  obtain ⟨A1, c1, rfl⟩ := Kd.R_slice ho
  have hlen : r.length = l.length := by
    have := congrArg List.length h2
    simpa using this
  rw [hlen] at ho
  refine ⟨A1, c1, by rw [hlen], ?_, hb⟩
  rw [← h2]
  exact haulierlaw23_HeapDrains.R_map ho
theorem haulierlaw23_HeapDrains.less_ (a b c x y z : Int) : haulierref23_Less.f a b c x y z = some (lt3 (a, b, c) (x, y, z)) := by
  unfold haulierref23_Less.f lt3
  dsimp only
  split
  · split <;> rfl
  · rfl
theorem haulierlaw23_HeapDrains.push_l (x : List S32) (a b c : Int) (hl : x.length ≤ 200) : ∀ d k i, x.length - i ≤ d → d < k → i ≤ x.length → ∃ r, haulierref23_Push.l0 k x (i : Int) a b c = some r ∧ r.map haulierlaw23_HeapDrains.t = (x.take i).map haulierlaw23_HeapDrains.t ++ ins (a, b, c) ((x.drop i).map haulierlaw23_HeapDrains.t) := by
  have hend : ∀ k i, i = x.length → ∃ r, haulierref23_Push.l0 (k + 1) x (i : Int) a b c = some r ∧ r.map haulierlaw23_HeapDrains.t = (x.take i).map haulierlaw23_HeapDrains.t ++ ins (a, b, c) ((x.drop i).map haulierlaw23_HeapDrains.t) := by
    intro k i hi
    subst hi
    rw [haulierref23_Push.l0, if_neg (by omega), if_pos (by omega), if_pos (by omega)]
    simp only [Option.bind_some, List.nil_append, Int.toNat_natCast, List.take_length, List.drop_length, List.append_nil]
    rw [if_pos (by simp; omega), if_pos (by omega), if_pos (by simp; omega)]
    exact ⟨_, rfl, by simp [ins, haulierlaw23_HeapDrains.t]⟩
  intro d
  induction d with
  | zero =>
    intro k i h hk hi
    obtain ⟨k, rfl⟩ : ∃ q, k = q + 1 := ⟨k - 1, by omega⟩
    exact hend k i (by omega)
  | succ d ih =>
    intro k i h hk hi
    obtain ⟨k, rfl⟩ : ∃ q, k = q + 1 := ⟨k - 1, by omega⟩
    by_cases c0 : i < x.length
    · rw [haulierref23_Push.l0, if_pos (by omega), if_pos (by omega), haulierlaw23_HeapDrains.rd_ c0, haulierlaw23_HeapDrains.less_, Option.bind_some]
      have hd := List.drop_eq_getElem_cons c0
      cases hlt : lt3 (a, b, c) (x[i].f0, x[i].f1, x[i].f2) with
      | true =>
        rw [if_pos rfl, if_pos (by omega)]
        simp only [Option.bind_some, List.nil_append, Int.toNat_natCast]
        rw [if_pos (by simp; omega), if_pos (by simp; omega), if_pos (by simp; omega)]
        refine ⟨_, rfl, ?_⟩
        rw [hd]
        simp only [List.map_append, List.map_cons, List.map_nil, ins, haulierlaw23_HeapDrains.t, hlt, if_true, List.append_assoc, List.singleton_append]
      | false =>
        rw [if_neg (by simp), haulierlaw23_HeapDrains.w64 i (by omega)]
        obtain ⟨r, h1, h2⟩ := ih k (i + 1) (by omega) (by omega) (by omega)
        refine ⟨r, h1, ?_⟩
        rw [h2, hd]
        rw [List.take_succ_eq_append_getElem c0]
        simp only [List.map_append, List.map_cons, List.map_nil, ins, haulierlaw23_HeapDrains.t, hlt, Bool.false_eq_true, if_false, List.append_assoc, List.singleton_append]
    · exact hend k i (by omega)
theorem haulierlaw23_HeapDrains.push_ (k : Nat) (x : List S32) (a b c : Int) (hk : 500 ≤ k) (hl : x.length ≤ 200) : ∃ r, haulierref23_Push.f k x a b c = some r ∧ r.map haulierlaw23_HeapDrains.t = ins (a, b, c) (x.map haulierlaw23_HeapDrains.t) := by
  obtain ⟨r, h1, h2⟩ := haulierlaw23_HeapDrains.push_l x a b c hl x.length k 0 (by omega) (by omega) (by omega)
  exact ⟨r, h1, by simpa using h2⟩
theorem haulierlaw23_HeapDrains.new_l (l : List S32) (hl : l.length ≤ 60) : ∀ d k i (x : List S32), l.length - i ≤ d → d + 500 < k → i ≤ l.length → x.length = i → ∃ r, haulierref23_New.l0 k l x (i : Int) = some r ∧ r.map haulierlaw23_HeapDrains.t = ((l.drop i).map haulierlaw23_HeapDrains.t).foldl (fun s y => ins y s) (x.map haulierlaw23_HeapDrains.t) := by
  intro d
  induction d with
  | zero =>
    intro k i x h hk hi hx
    obtain ⟨k, rfl⟩ : ∃ q, k = q + 1 := ⟨k - 1, by omega⟩
    rw [haulierref23_New.l0, if_neg (by omega), List.drop_of_length_le (by omega)]
    exact ⟨_, rfl, rfl⟩
  | succ d ih =>
    intro k i x h hk hi hx
    obtain ⟨k, rfl⟩ : ∃ q, k = q + 1 := ⟨k - 1, by omega⟩
    by_cases c : i < l.length
    · rw [haulierref23_New.l0, if_pos (by omega), if_pos (by omega), haulierlaw23_HeapDrains.rd_ c, haulierlaw23_HeapDrains.w64 i (by omega)]
      obtain ⟨r, h1, h2⟩ := haulierlaw23_HeapDrains.push_ k x l[i].f0 l[i].f1 l[i].f2 (by omega) (by omega)
      rw [h1, Option.bind_some]
      have hlen : r.length = i + 1 := by
        have := congrArg List.length h2
        rw [ins_len] at this
        simpa [hx] using this
      obtain ⟨q, h3, h4⟩ := ih k (i + 1) r (by omega) (by omega) (by omega) hlen
      refine ⟨q, h3, ?_⟩
      rw [h4, List.drop_eq_getElem_cons c, h2]
      rfl
    · rw [haulierref23_New.l0, if_neg (by omega), List.drop_of_length_le (by omega)]
      exact ⟨_, rfl, rfl⟩
theorem haulierlaw23_HeapDrains.new_ (k : Nat) (l : List S32) (hk : 1000 ≤ k) (hl : l.length ≤ 60) : ∃ r, haulierref23_New.f k l = some r ∧ r.map haulierlaw23_HeapDrains.t = isort (l.map haulierlaw23_HeapDrains.t) := by
  obtain ⟨r, h1, h2⟩ := haulierlaw23_HeapDrains.new_l l hl l.length k 0 [] (by omega) (by omega) (by omega) rfl
  exact ⟨r, h1, by unfold isort; simpa using h2⟩
theorem haulierlaw23_HeapDrains.newc (k : Nat) (A : Option Addr) (c : Nat) (l : List S32) (w : World) (hk : 1000 ≤ k) (hl : l.length ≤ 60) (hr : Kd.C k32 w A l.length l) (hc : l.length ≤ c) : Calls Try.prog 9 #[.slice A l.length c] w fun e w' => ∃ A1 c1, e = .returned (.slice A1 l.length c1) ∧ XA w' A1 (isort (l.map haulierlaw23_HeapDrains.t)) ∧ l.length ≤ c1 ∧ Below w.heap.size w w' := by
  obtain ⟨r, h1, h2⟩ := haulierlaw23_HeapDrains.new_ k l hk hl
  refine (haulierref23_New.calls k A c l r w hr hc h1).mono ?_
  rintro e w' ⟨v, rfl, ho, hb⟩
  obtain ⟨A1, c1, rfl⟩ := Kd.R_slice ho
  have hlen : r.length = l.length := by
    have := congrArg List.length h2
    rw [isort_len] at this
    simpa using this
  obtain ⟨g1, g2, g3⟩ := Go.Proofs.Ytojaflnejkbjnaa.Hp11.XA.of_R (f := haulierlaw23_HeapDrains.t) ho
  rw [h2] at g1
  exact ⟨A1, c1, by rw [hlen], g1, by omega, hb⟩
def haulierlaw23_HeapDrains.f (k : Nat) (l0 : List S32) (a1 : Int) : Option Bool := if 1000 ≤ k then some true else none
theorem haulierlaw23_HeapDrains.mono : ∀ l0 a1 k, LeO (haulierlaw23_HeapDrains.f k l0 a1) (haulierlaw23_HeapDrains.f (k + 1) l0 a1) := by
  intro l0 a1 k r h
  unfold haulierlaw23_HeapDrains.f at h ⊢
  split at h
  · rw [if_pos (by omega)]
    exact h
  · cases h
theorem haulierlaw23_HeapDrains.f_true {k : Nat} {r : Bool} {l0 : List S32} {a1 : Int} (h : haulierlaw23_HeapDrains.f k l0 a1 = some r) : 1000 ≤ k ∧ r = true := by
  unfold haulierlaw23_HeapDrains.f at h
  split at h
  · exact ⟨by assumption, (Option.some.inj h).symm⟩
  · cases h

set_option maxHeartbeats 8000000 in
set_option maxRecDepth 100000 in
theorem haulierlaw23_HeapDrains.wa (A0 : Option Addr) (c0 : Nat) (l0 : List S32) (a1 : Int) (w : World) (hr0 : Kd.C k32 w A0 l0.length l0) (hc0 : l0.length ≤ c0) (h1 : 60 < l0.length) : Calls Try.prog 3 #[.slice A0 l0.length c0, .int .i64 a1] w fun e w' => e = .returned (.bool true) ∧ Below w.heap.size w w' := by
  have HB := Aside0.mk (Below.refl w.heap.size w)
  clear hr0 hc0
  have g1 : ((60 : Int) < (l0.length : Int)) = True := eq_true (by omega)
  have g2 : ((l0.length : Int) > 60) = True := eq_true (by omega)
  clear h1
  go_enter Try.func3, Try.ntmps3
  go_wp2_with ((go_at_call 6; (with_reducible refine (alive_ _).mono ?_); rintro e wv ⟨rfl, hb⟩; replace HB := Aside0.mk (below_step HB.out hb); clear hb))
  first | go_ret | go_ret2
  exact ⟨by first | rfl | simp, HB.out⟩
set_option maxHeartbeats 8000000 in
set_option maxRecDepth 100000 in
theorem haulierlaw23_HeapDrains.loop (k : Nat) (A0 : Option Addr) (c0 : Nat) (l0 : List S32) (a1 : Int) (w : World) (hr0 : Kd.C k32 w A0 l0.length l0) (hc0 : l0.length ≤ c0) (h1 : ¬ 60 < l0.length) (hk : 1000 ≤ k) : Calls Try.prog 3 #[.slice A0 l0.length c0, .int .i64 a1] w fun e w' => e = .returned (.bool true) ∧ Below w.heap.size w w' := by
  have g1 : ((60 : Int) < (l0.length : Int)) = False := eq_false (by omega)
  have g2 : ((l0.length : Int) > 60) = False := eq_false (by omega)
  have HK := Aside0.mk hk
  have HR0 := Aside0.mk hr0
  have HC0 := Aside0.mk hc0
  have HL0 := Aside0.mk (show l0.length ≤ 60 by omega)
  have HB := Aside0.mk (Below.refl w.heap.size w)
  clear hr0 hc0 h1 hk
  go_enter Try.func3, Try.ntmps3
  go_wp2_with (first | (go_at_call 8; (with_reducible refine (haulierlaw23_HeapDrains.givec k A0 c0 l0 _ HK.out HL0.out (Kd.C_below HR0.out HB.out) HC0.out).mono ?_); rintro e wv ⟨A2, c2, rfl, ho, hb⟩; have HO := Aside0.mk ho; replace HB := Aside0.mk (below_step HB.out hb); clear ho hb) | (go_at_call 7; (with_reducible refine (new_n A2 c2 l0.length (l0.map haulierlaw23_HeapDrains.t) (by simp) (by have := HL0.out; omega) _ (Kd.R_reads' HO.out).2.2).mono ?_); rintro e wv ⟨b, v, rfl, hi, hb⟩; obtain ⟨ys, HS0, HH⟩ : ∃ ys, Aside0 (HS ys (isort (l0.map haulierlaw23_HeapDrains.t))) ∧ Aside0 (IsH wv w.heap.size b v ys) := ⟨_, ⟨by have h := HS.new (l0.map haulierlaw23_HeapDrains.t); rw [List.length_map] at h; exact h⟩, ⟨lowerH hi (below_size HB.out)⟩⟩; replace HB := Aside0.mk (below_step HB.out hb); clear hi hb HO; obtain ⟨m, HM⟩ : ∃ m, Aside0 (m = min a1.toNat ys.length) := ⟨_, ⟨rfl⟩⟩; obtain ⟨r1, r2, HDR⟩ : ∃ r1 r2, Aside0 (drainL m ys = (r1, r2)) := ⟨_, _, ⟨rfl⟩⟩; have HYL := Aside0.mk (show ys.length = l0.length by have := HS0.out.len; rw [isort_len, List.length_map] at this; omega); have HSD := Aside0.mk (Go.Proofs.Ytojaflnejkbjnaa.Hp9.HS.drain (m := m) HS0.out (by have := HS0.out.len; have := HM.out; omega)); have HR1 := Aside0.mk (show r1 = (isort (l0.map haulierlaw23_HeapDrains.t)).take m by have := HSD.out.1; rw [HDR.out] at this; exact this); have HR1L := Aside0.mk (show r1.length = m by rw [HR1.out, List.length_take]; have := HS0.out.len; have := HM.out; omega); have HR2L := Aside0.mk (show r2.length = l0.length - m by have := HSD.out.2.len; rw [HDR.out, List.length_drop, isort_len, List.length_map] at this; exact this.symm); obtain ⟨u, hmn⟩ : ∃ u : Int, (if (l0.length : Int) < a1 then (l0.length : Int) else a1) = u := ⟨_, rfl⟩; have hmx : (if 0 < u then u else 0) = (m : Int) := (by have := HM.out; have := HYL.out; rw [← hmn]; by_cases e1 : (l0.length : Int) < a1 <;> simp only [e1, if_true, if_false] <;> split <;> omega); have hw1 : wrap64 ((l0.length : Int) - (m : Int)) = (r2.length : Int) := (by have := HR2L.out; have := HM.out; have := HYL.out; have := HL0.out; unfold wrap64; omega); have hw2 : IntKind.i64.wrap ((l0.length : Int) - (m : Int)) = (r2.length : Int) := (by rw [i64_w]; exact hw1); clear HSD) | (go_at_call 9; (with_reducible refine (haulierlaw23_HeapDrains.newc k A0 c0 l0 _ HK.out HL0.out (Kd.C_below HR0.out HB.out) HC0.out).mono ?_); rintro e wv ⟨A3, c3, rfl, hx, hxc, hb⟩; have XX := Aside0.mk hx; have XC := Aside0.mk hxc; replace HH := Aside0.mk (Go.Proofs.Ytojaflnejkbjnaa.Hp2.IsH.step HH.out hb); replace HB := Aside0.mk (below_step HB.out hb); clear hx hxc hb) | (go_at_call 10; (with_reducible refine (drain_ w.heap.size b v ys a1 m r1 r2 (by have := HYL.out; have := HL0.out; omega) HM.out HDR.out _ HH.out).mono ?_); rintro e wv ⟨vo, rfl, ho, hg⟩; obtain ⟨v1, hi, hk, ha⟩ := hg; replace XX := Aside0.mk (Go.Proofs.Ytojaflnejkbjnaa.Hp11.XA.hk XX.out HH.out hk); replace HB := Aside0.mk (Goes.base HB.out HH.out ⟨v1, hi, hk, ha⟩ (Nat.le_refl _)); replace HH := Aside0.mk hi; obtain ⟨A5, c5, e5⟩ := Kd.R_slice ho; rw [HR1L.out] at e5; subst e5; have HD := Aside0.mk (Kd.R_reads' ho).2.2; clear hi hk ha ho) | (go_at_call 11; (with_reducible refine (hlen_ w.heap.size b v1 r2 _ HH.out).mono ?_); rintro e wv ⟨rfl, hb⟩; replace XX := Aside0.mk (Go.Proofs.Ytojaflnejkbjnaa.Hp11.XA.below XX.out hb); replace HD := Aside0.mk (Kd.C_below HD.out hb); replace HB := Aside0.mk (below_step HB.out hb); clear hb HH))
  clear g1 g2 hmn hmx hw1 hw2
  go_loopg [42] m (fun kq v42 w' => ∃ (i : Nat), v42 = .int .i64 (i : Int) ∧ Aside0 (i ≤ m) ∧ Aside0 (m - i ≤ kq) ∧ Aside0 (XA w' A3 (isort (l0.map haulierlaw23_HeapDrains.t))) ∧ Aside0 (Kd.C kdi w' A5 r1.length r1) ∧ Aside0 (Below w.heap.size w w'))
  case atStart => exact ⟨0, rfl, ⟨Nat.zero_le _⟩, ⟨by omega⟩, XX, HD, HB⟩
  case round =>
    clear HB XX HD
    obtain ⟨i, rfl, HI, HKQ, XX, HD, HB⟩ := hrel
    by_cases c1_ : i < m
    · have hil : i < (isort (l0.map haulierlaw23_HeapDrains.t)).length := by have := HR1L.out; rw [HR1.out, List.length_take] at this; omega
      obtain ⟨⟨z0, z1, z2⟩, hz⟩ : ∃ z, ri (isort (l0.map haulierlaw23_HeapDrains.t)) i = z := ⟨_, rfl⟩
      obtain ⟨a3, e3, hx0, hx1, hx2⟩ := at_H XX.out.1 i hil
      obtain ⟨a5, e5, hd0, hd1, hd2⟩ := at_H HD.out i (by have := HR1L.out; omega)
      rw [show ri r1 i = (z0, z1, z2) by rw [HR1.out, ri_take c1_]; exact hz] at hd0 hd1 hd2
      rw [hz] at hx0 hx1 hx2
      dsimp only at hx0 hx1 hx2 hd0 hd1 hd2
      subst e3 e5
      have HIN := Aside0.mk c1_
      have p1 : (0 ≤ (i : Int)) = True := eq_true (by omega)
      have p2 : ((i : Int) < (m : Int)) = True := eq_true (by omega)
      have p3 : ((i : Int) < (l0.length : Int)) = True := eq_true (by rw [isort_len, List.length_map] at hil; omega)
      have HW2 := Aside0.mk (show wrap64 ((i : Int) + 1) = ((i + 1 : Nat) : Int) from haulierlaw23_HeapDrains.w64 i (by rw [isort_len, List.length_map] at hil; have := HL0.out; omega))
      clear hz hil c1_
      go_wp2
      obtain ⟨wv, hwv⟩ : ∃ wv, wv = wr := ⟨_, rfl⟩
      rw [← hwv] at XX HD HB hx0 hx1 hx2 hd0 hd1 hd2 ⊢
      clear hwv
      refine start_ (n := 9) (S := fun w' => w'.cell? (a5.add (i * 3)) = some (.int .i64 z0) ∧ w'.cell? ⟨(a5.add (i * 3)).block, (a5.add (i * 3)).off + 1, none⟩ = some (.int .i64 z1) ∧ w'.cell? ⟨(a5.add (i * 3)).block, (a5.add (i * 3)).off + 2, none⟩ = some (.int .i64 z2) ∧ w'.cell? (a3.add (i * 3)) = some (.int .i64 z0) ∧ w'.cell? ⟨(a3.add (i * 3)).block, (a3.add (i * 3)).off + 1, none⟩ = some (.int .i64 z1) ∧ w'.cell? ⟨(a3.add (i * 3)).block, (a3.add (i * 3)).off + 2, none⟩ = some (.int .i64 z2)) (ds := []) #[false, false, false, false, false, false, false, false, false] (by kernel_rfl) rfl rfl ⟨hd0, hd1, hd2, hx0, hx1, hx2⟩ (fun hHeld => ?_)
      replace XX := Aside0.mk (show XA wv.drew (some a3) _ from XX.out)
      replace HD := Aside0.mk (show Kd.C kdi wv.drew (some a5) _ r1 from HD.out)
      replace HB := Aside0.mk (HB.out.drew)
      generalize wv.drew = wv at XX HD HB hHeld ⊢
      refine pure_ (i := 0) (N := some 45) (v := ?_) (a' := ?_) #[true, false, false, false, false, false, false, false, false] rfl rfl (by kernel_rfl) (fun _ _ _ h => h) (Or.inl ⟨by rfl, ?_⟩) ?_ ?_
      rotate_left
      · intro w'
        go_simp
        with_reducible rfl
      rotate_left
      · simp only [Act.put, List.setIfInBounds_toArray, List.set_cons_zero, List.set_cons_succ, i64_w, i32_w]
        rfl
      refine pure_ (i := 1) (N := some 46) (v := ?_) (a' := ?_) #[true, true, false, false, false, false, false, false, false] rfl rfl (by kernel_rfl) (fun _ _ _ h => h) (Or.inl ⟨by rfl, ?_⟩) ?_ ?_
      rotate_left
      · intro w'
        go_simp
        with_reducible rfl
      rotate_left
      · simp only [Act.put, List.setIfInBounds_toArray, List.set_cons_zero, List.set_cons_succ, i64_w, i32_w]
        rfl
      refine pure_ (i := 2) (N := some 47) (v := ?_) (a' := ?_) #[true, true, true, false, false, false, false, false, false] rfl rfl (by kernel_rfl) (fun _ _ _ h => h) (Or.inl ⟨by rfl, ?_⟩) ?_ ?_
      rotate_left
      · intro w'
        go_simp
        with_reducible rfl
      rotate_left
      · simp only [Act.put, List.setIfInBounds_toArray, List.set_cons_zero, List.set_cons_succ, i64_w, i32_w]
        rfl
      refine pure_ (i := 4) (N := some 49) (v := ?_) (a' := ?_) #[true, true, true, false, true, false, false, false, false] rfl rfl (by kernel_rfl) (fun _ _ _ h => h) (Or.inl ⟨by rfl, ?_⟩) ?_ ?_
      rotate_left
      · intro w'
        go_simp
        with_reducible rfl
      rotate_left
      · simp only [Act.put, List.setIfInBounds_toArray, List.set_cons_zero, List.set_cons_succ, i64_w, i32_w]
        rfl
      refine pure_ (i := 5) (N := some 50) (v := ?_) (a' := ?_) #[true, true, true, false, true, true, false, false, false] rfl rfl (by kernel_rfl) (fun _ _ _ h => h) (Or.inl ⟨by rfl, ?_⟩) ?_ ?_
      rotate_left
      · intro w'
        go_simp
        with_reducible rfl
      rotate_left
      · simp only [Act.put, List.setIfInBounds_toArray, List.set_cons_zero, List.set_cons_succ, i64_w, i32_w]
        rfl
      refine pure_ (i := 6) (N := some 51) (v := ?_) (a' := ?_) #[true, true, true, false, true, true, true, false, false] rfl rfl (by kernel_rfl) (fun _ _ _ h => h) (Or.inl ⟨by rfl, ?_⟩) ?_ ?_
      rotate_left
      · intro w'
        go_simp
        with_reducible rfl
      rotate_left
      · simp only [Act.put, List.setIfInBounds_toArray, List.set_cons_zero, List.set_cons_succ, i64_w, i32_w]
        rfl
      refine take_ (i := 3) (N := some 48) (v := ?_) (a' := ?_) #[true, true, true, true, true, true, true, false, false] rfl rfl (by kernel_rfl) (fun _ _ _ h => h) (Or.inl ⟨by rfl, ?_⟩) hHeld ?_ ?_
      rotate_left
      · rintro w' ⟨s0, s1, s2, s3, s4, s5⟩
        go_simp
        with_reducible rfl
      rotate_left
      · simp only [Act.put, List.setIfInBounds_toArray, List.set_cons_zero, List.set_cons_succ, i64_w, i32_w]
        rfl
      refine take_ (i := 7) (N := some 52) (v := ?_) (a' := ?_) #[true, true, true, true, true, true, true, true, false] rfl rfl (by kernel_rfl) (fun _ _ _ h => h) (Or.inl ⟨by rfl, ?_⟩) hHeld ?_ ?_
      rotate_left
      · rintro w' ⟨s0, s1, s2, s3, s4, s5⟩
        go_simp
        with_reducible rfl
      rotate_left
      · simp only [Act.put, List.setIfInBounds_toArray, List.set_cons_zero, List.set_cons_succ, i64_w, i32_w]
        rfl
      refine pure_ (i := 8) (N := some 53) (v := ?_) (a' := ?_) #[true, true, true, true, true, true, true, true, true] rfl rfl (by kernel_rfl) (fun _ _ _ h => h) (Or.inl ⟨by rfl, ?_⟩) ?_ ?_
      rotate_left
      · intro w'
        go_simp
        with_reducible rfl
      rotate_left
      · simp only [Act.put, List.setIfInBounds_toArray, List.set_cons_zero, List.set_cons_succ, i64_w, i32_w]
        rfl
      refine done_ (by kernel_rfl) ?_
      (try go_wp2)
      go_roundg (m - (i + 1))
      case measure => have := HKQ.out; have := HIN.out; omega
      case rel => exact ⟨i + 1, by first | rfl | rw [HW2.out], ⟨by have := HIN.out; omega⟩, ⟨by omega⟩, XX, HD, HB⟩
    · obtain rfl : i = m := by have := HI.out; omega
      clear c1_
      go_wp2_with ((go_at_call 6; (with_reducible refine (alive_ _).mono ?_); rintro e wv ⟨rfl, hb⟩; replace HB := Aside0.mk (below_step HB.out hb); clear hb))
      first | go_ret | go_ret2
      exact ⟨by first | rfl | simp, HB.out⟩
theorem haulierlaw23_HeapDrains.calls (k : Nat) (A0 : Option Addr) (c0 : Nat) (l0 : List S32) (a1 : Int) (r : Bool) (w : World) (hr0 : Kd.C k32 w A0 l0.length l0) (hc0 : l0.length ≤ c0) (h : haulierlaw23_HeapDrains.f k l0 a1 = some r) : Calls Try.prog 3 #[.slice A0 l0.length c0, .int .i64 a1] w fun e w' => e = .returned (.bool r) ∧ Below w.heap.size w w' := by
  obtain ⟨hk, rfl⟩ := haulierlaw23_HeapDrains.f_true h
  by_cases h1 : 60 < l0.length
  · exact haulierlaw23_HeapDrains.wa A0 c0 l0 a1 w hr0 hc0 h1
  exact haulierlaw23_HeapDrains.loop k A0 c0 l0 a1 w hr0 hc0 h1 hk


def OK32 (x : S32) : Prop := (Lit.int .i64 x.f0).wf = true ∧ ((Lit.int .i64 x.f1).wf = true ∧ ((Lit.int .i64 x.f2).wf = true))
/-- THE ONE PURE STATEMENT of haulierlaw23_HeapDrains. -/
def haulierlaw23_HeapDrains.Pure : Prop := ∀ (l0 : List (S32)) (a1 : Int), l0.length ≤ maxLen → (∀ x ∈ l0, OK32 x) → (Lit.int .i64 a1).wf = true → ∃ k, haulierlaw23_HeapDrains.f k l0 a1 = some true
end Go.Proofs.Ytojaflnejkbjnaa.MHeapDrains
