/- Written by a program of this session: Go functions that the law OrderChecks reaches, as Lean functions, each with a proof that the Go code comes to just what it says; every input of the kinds that a contract names. -/
import Derived.Test.YtkedaiamhcgdkaaMOrderChecksx0
import Derived.Test.YtkedaiamhcgdkaaMOrderChecksx2
namespace Go.Proofs.Ytkedaiamhcgdkaa.MOrderChecks
open Go.RowKit Go.Proofs.YtkedaiamhcgdkaaW.PrintWords Go.Proofs.YtkedaiamhcgdkaaW.PrintLast Go.Proofs.YtkedaiamhcgdkaaW.PrintMore
attribute [local go_sem] max2_int min2_int max_two min_two max_three min_three max_four min_four   -- for this text's walks alone
set_option linter.unusedVariables false
set_option linter.unusedSimpArgs false
set_option linter.unnecessarySimpa false

/-! ### order_Add: function 9 (typed by hand) -/
theorem order_Add.inf : (Try.prog.info? 25).map (fun i => (i.zero, i.size, i.bytes)) = some (some (.agg #[(.int .i64 0), (.int .i64 0), (.int .i64 0), (.int .i64 0), (.slice none 0 0)]), 5, 56) := by kernel_rfl
theorem order_Add.heap : Kd.Heap k25 := Kd.heap_iso _ (Kd.heap_pair (Kd.heap_int _) (Kd.heap_pair (Kd.heap_int _) (Kd.heap_pair (Kd.heap_int _) (Kd.heap_pair (Kd.heap_int _) (Kd.heap_slice _ (Kd.heap_iso _ (Kd.heap_pair (Kd.heap_int _) (Kd.heap_int _))))))))
theorem order_Add.at_L2 {w : World} {A : Option Addr} {n : Nat} {xs : List (List S25)} (h : Kd.C (Kd.slice 25 k25) w A n xs) (i : Int) (h0 : 0 ≤ i) (h1 : i < n) : ∃ ad A0 c0, A = some ad ∧ w.cell? (ad.add i.toNat) = some (.slice A0 (xs.getD i.toNat []).length c0) ∧ (xs.getD i.toNat []).length ≤ c0 ∧ k25.C w A0 (xs.getD i.toNat []).length (xs.getD i.toNat []) := by
  obtain ⟨ad, c, e, _, hK, hc0⟩ := Kd.C_get h ([] : List S25) i h0 h1
  have hc : ∀ j u, c[j]? = some u → w.cell? (ad.add (i.toNat * 1 + j)) = some u := hc0
  obtain ⟨A0, c0, rfl, l0, g0⟩ := hK
  exact ⟨ad, A0, c0, e, by have hq := hc 0 _ rfl; rwa [Nat.mul_one, Nat.add_zero] at hq, l0, g0⟩
theorem order_Add.at_F {w : World} {ok : Nat → Prop} {A : Option Addr} {n : Nat} {xs : List (List S25)} (h : Kd.F (Kd.slice 25 k25) w ok A n xs) (i : Int) (h0 : 0 ≤ i) (h1 : i < n) : ∃ ad A0 c0, A = some ad ∧ w.cell? (ad.add i.toNat) = some (.slice A0 (xs.getD i.toNat []).length c0) ∧ (xs.getD i.toNat []).length ≤ c0 ∧ Kd.F k25 w ok A0 (xs.getD i.toNat []).length (xs.getD i.toNat []) := by
  obtain ⟨ad, c, e, _, hK, hc0, _⟩ := Kd.F_get h ([] : List S25) i h0 h1
  have hc : ∀ j u, c[j]? = some u → w.cell? (ad.add (i.toNat * 1 + j)) = some u := hc0
  obtain ⟨A0, c0, rfl, l0, g0⟩ := Kd.FK_now hK
  refine ⟨ad, A0, c0, e, by have hq := hc 0 _ rfl; rwa [Nat.mul_one, Nat.add_zero] at hq, l0, fun W' hW => ?_⟩
  obtain ⟨A0_, c0_, he, _, g0_⟩ := hK W' hW
  injection he with he _
  injection he with ha _ _
  rw [ha]
  exact g0_
set_option maxHeartbeats 8000000 in
set_option maxRecDepth 100000 in
theorem order_Add.grow (m : Nat) (hm : m < 2513169434916) (w : World) : Calls Try.prog 32 #[.slice none 0 0, .int .i64 (m : Int)] w fun e w' => ∃ v, e = .returned v ∧ w'.ownsRow w.heap.size 25 5 v 0 [] ∧ Below w.heap.size w w' := by
  rcases Nat.eq_zero_or_pos m with h0 | h0
  · subst h0
    go_enter Try.func32, Try.ntmps32
    go_wp2
    go_ret
    exact ⟨_, rfl, World.ownsRow_nil w _ _ _, Below.refl _ _⟩
  · obtain ⟨i0, hi, hzz⟩ := Option.map_eq_some_iff.1 order_Add.inf
    simp only [Prod.mk.injEq] at hzz
    obtain ⟨hz0, hz1, hz2⟩ := hzz
    have hr : ∀ ty, (Builtin.append_ #[22, 3] ty #[.slice none 0 0, .int .i64 (m : Int)]).run Try.prog w = .ok (.slice (some ⟨w.heap.size, 0, none⟩) m (grownCap w m 0 25)) (w.drew.alloc (.cells (Builtin.zeroCells (Value.agg #[.int .i64 0, .int .i64 0, .int .i64 0, .int .i64 0, .slice none 0 0]).cells m ++ Builtin.zeroCells (Value.agg #[.int .i64 0, .int .i64 0, .int .i64 0, .int .i64 0, .slice none 0 0]).cells (grownCap w m 0 25 - m)) 25)) := fun ty =>
      Go.Lib.run_append_nil_zeros w 22 3 ty 25 i0 _ .i64 .i64 Try.underlying22 Try.underlying3 hi hz0 m h0 (by omega) (by omega) (by rw [hz2]; omega)
    have hGn : m ≤ grownCap w m 0 25 := grownCap_ge w _ _ _
    have hG63 : grownCap w m 0 25 ≤ maxLen := grownCap_le_maxLen w m 0 25 (by unfold maxLen; omega)
    generalize hG : grownCap w m 0 25 = G at hr hGn hG63
    have hGi : (G : Int) ≤ 9223372036854775807 := by unfold maxLen at hG63; omega
    generalize hZ : (Builtin.zeroCells (Value.agg #[.int .i64 0, .int .i64 0, .int .i64 0, .int .i64 0, .slice none 0 0]).cells m ++ Builtin.zeroCells (Value.agg #[.int .i64 0, .int .i64 0, .int .i64 0, .int .i64 0, .slice none 0 0]).cells (G - m)) = Z at hr
    have hZs : Z.size = G * 5 := by
      rw [← hZ]
      simp [size_zeroCells, Value.cells]
      omega
    have h1 : ((m : Int) < 0) = False := eq_false (by omega)
    have h2 : wrap64 ((0 : Int) - 0) = 0 := by unfold wrap64; omega
    have h3 : wrap64 ((m : Int) - 0) = m := by unfold wrap64; omega
    have h4 : ((m : Int) > 0) = True := eq_true (by omega)
    have h4b : ((0 : Int) < m) = True := eq_true (by omega)
    clear hZ hG hi hz0 hz1 hz2
    have HZS := Aside0.mk hZs
    have HG1 := Aside0.mk hGn
    have HG2 := Aside0.mk hG63
    have h5 : (0 < m) = True := eq_true h0
    clear hZs h0
    go_enter Try.func32, Try.ntmps32
    go_wp2_with (at_builtin; refine Go.Lib.wpList_append_run _ rfl _ _ _ _ rfl _ _ rfl rfl _ _ (hr _) ?_)
    go_ret
    refine ⟨_, rfl, ⟨by simp, .inr ⟨w.heap.size, G, Z, rfl, Nat.le_refl _, heap_alloc_new w.drew _, Nat.zero_le _, HG2.out, HZS.out, by simp⟩⟩, ?_⟩
    exact ⟨rfl, rfl, rfl, by simp, fun k hk => Below.heap_alloc w.drew _ k hk⟩

theorem order_Add.take_succ {α : Type} (l : List (List α)) (i : Nat) (h : i < l.length) : (l.take (i + 1)).flatten = (l.take i).flatten ++ l.getD i [] := by
  rw [List.take_succ_eq_append_getElem h, List.flatten_append]
  simp [h]
theorem order_Add.take_le {α : Type} (l : List (List α)) (i : Nat) : (l.take i).flatten.length ≤ l.flatten.length := by
  have h := congrArg (fun z => z.flatten.length) (List.take_append_drop i l)
  simp only [List.flatten_append, List.length_append] at h
  omega
set_option maxHeartbeats 8000000 in
set_option maxRecDepth 100000 in
theorem order_Add.concat (A0 : Option Addr) (c0 : Nat) (l0 : List (List S25)) (r : List S25) (w : World) (okx : Nat → Prop) (hf0 : Kd.F (Kd.slice 25 k25) w okx A0 l0.length l0) (hc0 : l0.length ≤ c0) (h : (if l0.flatten.length < 2513169434916 then some l0.flatten else none) = some r) :
    Calls Try.prog 25 #[.slice A0 l0.length c0] w fun e w' => ∃ v0_ : Value, e = .returned (v0_) ∧ Kd.N k25 25 w' w.heap.size (fun k => okx k ∨ w.heap.size ≤ k) v0_ r ∧ Below w.heap.size w w' := by
  by_cases hL : l0.flatten.length < 2513169434916
  · rw [if_pos hL, Option.some.injEq] at h
    subst h
    have hr0 := Kd.F_now hf0
    have HF0 := Aside0.mk hf0
    have hmax : l0.length ≤ maxLen := hr0.2.1
    have HR0 := Aside0.mk hr0
    have HC0 := Aside0.mk hc0
    have HL := Aside0.mk hL
    have HM := Aside0.mk hmax
    clear hf0 hr0 hc0 hL hmax
    have HB := Aside0.mk (Below.refl w.heap.size w)
    obtain ⟨n0, hn0⟩ : ∃ n0 : Nat, n0 = l0.length := ⟨_, rfl⟩
    have HN := Aside0.mk hn0
    rw [← hn0]
    clear hn0
    go_enter Try.func25, Try.ntmps25
    go_wp2
    repeat (go_quiet (fail); try go_wp2)
    go_loopg [3, 11] n0 (fun kq v3 v11 w' => ∃ i : Nat, v3 = .int .i64 ((l0.take i).flatten.length : Int) ∧ v11 = .int .i64 (i : Int) ∧ Aside0 (i ≤ n0) ∧ Aside0 (n0 - i ≤ kq) ∧ Aside0 (w' = w))
    case atStart => exact ⟨0, by simp, rfl, ⟨by omega⟩, ⟨by omega⟩, ⟨rfl⟩⟩
    case round =>
      obtain ⟨i, rfl, rfl, HI, HG, HW⟩ := hrel
      by_cases c1 : (i : Int) < (n0 : Int)
      · have p1 : 0 ≤ (i : Int) := by omega
        have ht := order_Add.take_succ l0 i (by have := HN.out; omega)
        have htl := order_Add.take_le l0 (i + 1)
        rw [ht, List.length_append] at htl
        obtain ⟨ad, A1, c1', e1, hx1, hl1, hC1⟩ := order_Add.at_L2 (HN.out ▸ HR0.out) i p1 c1
        cases e1
        rw [Int.toNat_natCast] at hx1 hl1 hC1
        have hw1 : wrap64 (((l0.take i).flatten.length : Int) + ((l0.getD i []).length : Int)) = ((l0.take (i + 1)).flatten.length : Int) := by
          rw [ht, List.length_append]
          have := HL.out
          unfold wrap64
          omega
        have hw2 : wrap64 ((i : Int) + 1) = ((i + 1 : Nat) : Int) := by
          have := HM.out
          have := HN.out
          unfold wrap64
          unfold maxLen at *
          omega
        have hn1 : (((l0.take (i + 1)).flatten.length : Int) < 0) = False := eq_false (by omega)
        have HIN := Aside0.mk (show i < n0 by omega)
        replace p1 := eq_true p1
        replace c1 := eq_true c1
        obtain rfl := HW.out
        generalize hla : ((l0.take i).flatten.length : Int) = la at *
        generalize hlb : ((l0.take (i + 1)).flatten.length : Int) = lb at *
        generalize hlc : ((i + 1 : Nat) : Int) = ic at *
        generalize hld : (l0.getD i []).length = ld at *
        clear ht htl hla hld hl1 hC1
        have HLB := Aside0.mk hlb
        have HLC := Aside0.mk hlc
        clear hlb hlc
        go_wp2
        go_roundg (n0 - (i + 1))
        case measure => have := HIN.out; have := HG.out; omega
        case rel => exact ⟨i + 1, by rw [HLB.out], by rw [HLC.out], ⟨by have := HIN.out; omega⟩, ⟨by omega⟩, ⟨rfl⟩⟩
      · obtain rfl : i = n0 := by have := HI.out; omega
        replace c1 := eq_false c1
        have ht0 : l0.take i = l0 := by rw [List.take_of_length_le (by have := HN.out; omega)]
        rw [ht0]
        rw [HW.out]
        have HGRW := Aside0.mk (order_Add.grow l0.flatten.length (by have := HL.out; omega) w)
        obtain ⟨lf, hlf⟩ : ∃ lf, lf = l0.flatten.length := ⟨_, rfl⟩
        rw [← hlf] at HGRW ⊢
        have HLF := Aside0.mk hlf
        clear hlf ht0 HG HI HW
        go_wp2_with (go_at_call 32; with_reducible refine HGRW.out.mono ?_; rintro e wv ⟨vg, rfl, ho, hb⟩; have HO := Aside0.mk ho; replace HB := Aside0.mk (below_step HB.out hb); clear ho hb HGRW)
        repeat (go_quiet (fail); try go_wp2)
        go_loopg [6, 27] i (fun kq v6 v27 w1 => ∃ j : Nat, v27 = .int .i64 (j : Int) ∧ Aside0 (j ≤ i) ∧ Aside0 (i - j ≤ kq) ∧ Aside0 (Kd.N k25 25 w1 w.heap.size (fun k => okx k ∨ w.heap.size ≤ k) v6 (l0.take j).flatten) ∧ Aside0 (Below w.heap.size w w1))
        case atStart => exact ⟨0, rfl, ⟨by omega⟩, ⟨by omega⟩, ⟨⟨fun k hk => .inr (own_base HO.out k hk), [], rfl, ⟨fun _ hk => hk.symm, [], HO.out, Reps.none _ _⟩, fun j x c hx => by simp at hx⟩⟩, HB⟩
        case round =>
          clear HB HO
          obtain ⟨j, rfl, HJ, HG, HO, HB⟩ := hrel
          by_cases c1 : (j : Int) < (i : Int)
          · have p1 : 0 ≤ (j : Int) := by omega
            have HJN := Aside0.mk (show j < i by omega)
            have hjl : j < l0.length := by have := HN.out; omega
            have ht := order_Add.take_succ l0 j hjl
            have htl := order_Add.take_le l0 (j + 1)
            obtain ⟨ad, A1, c1', e1, hx1, hl1, hC1⟩ := order_Add.at_F (HN.out ▸ HF0.out) j p1 c1
            cases e1
            rw [Int.toNat_natCast] at hx1 hl1 hC1
            replace hx1 := (HB.out.cell (World.block_lt_of_cell? w _ hx1)).trans hx1
            have HC1 := Aside0.mk (Kd.F_below (Kd.F_bound hC1) HB.out)
            have hw2 : wrap64 ((j : Int) + 1) = ((j + 1 : Nat) : Int) := by
              have := HM.out
              have := HN.out
              unfold wrap64
              unfold maxLen at *
              omega
            have HT := Aside0.mk ht
            have HTB := Aside0.mk (show ((l0.take j).flatten.length + (l0.getD j []).length) * 56 ≤ 140737488355328 by
              rw [ht, List.length_append] at htl
              have := HL.out
              omega)
            replace p1 := eq_true p1
            replace c1 := eq_true c1
            generalize hla : l0.getD j [] = la at *
            generalize hlc : ((j + 1 : Nat) : Int) = ic at *
            clear ht htl hla hjl hl1 hC1
            have HLC := Aside0.mk hlc
            clear hlc
            have hbs := below_size HB.out
            have HBS := Aside0.mk hbs
            have HW2 := Aside0.mk hw2
            clear hbs
            go_wp2_with (at_builtin; refine Kd.N_append_rows k25 (w0 := w) w.heap.size rfl _ _ 22 25 (.agg #[.int .i64 0, .int .i64 0, .int .i64 0, .int .i64 0, .slice none 0 0]) 56 rfl Try.underlying22 order_Add.inf rfl (by decide) (by decide) _ _ la A1 la.length c1' (fun k => okx k ∨ w.heap.size ≤ k) (fun k => okx k ∧ k < w.heap.size) rfl rfl HO.out HC1.out (fun k hk => ⟨.inl hk.1, fun e => by have := Kd.N_base HO.out k e.symm; have := hk.2; omega⟩) (fun k hk => .inr (Nat.le_trans HBS.out hk)) HB.out HBS.out HTB.out ?_; intro v1 w1 ho1 hb1 _ _; have HO1 := Aside0.mk ho1; have HB1 := Aside0.mk hb1; clear ho1 hb1)
            go_roundg (i - (j + 1))
            case measure => have := HJN.out; have := HG.out; omega
            case rel => exact ⟨j + 1, by first | (rw [HLC.out]; done) | (rw [HLC.out, HW2.out]; done), ⟨by have := HJN.out; omega⟩, ⟨by omega⟩, ⟨by rw [HT.out]; exact HO1.out⟩, HB1⟩
          · obtain rfl : j = i := by have := HJ.out; omega
            replace c1 := eq_false c1
            have ht0 : l0.take j = l0 := by rw [List.take_of_length_le (by have := HN.out; omega)]
            rw [ht0] at HO
            have HK := Aside0.mk HO.out
            clear ht0 HO
            go_wp2
            repeat (go_quiet (fail); try go_wp2)
            go_ret
            exact ⟨_, rfl, HK.out, HB.out⟩
  · rw [if_neg hL] at h
    exact absurd h (by simp)

theorem order_Add.heap50 : Kd.Heap k50 := Kd.heap_iso _ (Kd.heap_pair (Kd.heap_int _) (Kd.heap_int _))
set_option maxHeartbeats 8000000 in
set_option maxRecDepth 100000 in
theorem order_Add.ixC (id : Int) (v1 v2 v3 v4 : Value) (x : S25) (A4 : Option Addr) (c4 : Nat) (gi : Nat) (w : World) (r : Bool) (hp : (decide (id < x.f0)) = r) (hcap : w.heap[gi]? = some (.cells #[.int .i64 id, v1, v2, v3, v4] 25 (0, 0))) : Calls Try.prog 24 #[.agg #[.int .i64 x.f0, .int .i64 x.f1, .int .i64 x.f2, .int .i64 x.f3, .slice A4 x.f4.length c4], .pointer (some ⟨gi, 0, none⟩)] w fun e w' => e = .returned (.bool r) ∧ Below w.heap.size w w' := by
  subst hp
  have HC := Aside0.mk hcap
  clear hcap
  generalize x.f0 = x0 at *
  generalize x.f1 = x1 at *
  generalize x.f2 = x2 at *
  generalize x.f3 = x3 at *
  generalize x.f4.length = x4 at *
  go_enter Try.func24, Try.ntmps24
  go_wp2_with (first | ((with_reducible refine gate_dst (N := 2) rfl ?_); refine box_event ?hg (N := 2) ?hd (cs := #[.int .i64 x0, .int .i64 x1, .int .i64 x2, .int .i64 x3, .slice A4 x4 c4]) (t := 25) ?hr ?_; (case hd => rfl); (case hg => rfl); (case hr => first | (go_simp; done) | (go_simp; rfl)); intro gb hg_ wv hbox hb; have hb0 : wv.cell? ⟨gb, 0, none⟩ = some (.int .i64 x0) := (blk_cell hbox 0).trans rfl; have hgi0 : wv.cell? ⟨gi, 0, none⟩ = some (.int .i64 id) := (blk_cell (blk_below HC.out hb) 0).trans rfl; have HB := Aside0.mk hb; clear hb hbox hg_))
  first | go_ret | go_ret2
  exact ⟨rfl, HB.out⟩
def order_Add.ixF (p : S25 → Bool) : List S25 → Int → Int
  | [], _ => -1
  | x :: t, i => if p x = true then i else order_Add.ixF p t (i + 1)
set_option maxHeartbeats 8000000 in
set_option maxRecDepth 100000 in
theorem order_Add.ix (id : Int) (v1 v2 v3 v4 : Value) (gi : Nat) (A0 : Option Addr) (c0 : Nat) (l0 : List S25) (w : World) (hr0 : Kd.C k25 w A0 l0.length l0) (hc0 : l0.length ≤ c0) (hcap : w.heap[gi]? = some (.cells #[.int .i64 id, v1, v2, v3, v4] 25 (0, 0))) (hgi : gi < w.heap.size) : Calls Try.prog 23 #[.slice A0 l0.length c0, .func (.func 24) #[] #[.pointer (some ⟨gi, 0, none⟩)]] w fun e w' => e = .returned (.int .i64 (order_Add.ixF (fun x => decide (id < x.f0)) l0 0)) ∧ Below w.heap.size w w' := by
  have hmax : l0.length ≤ maxLen := hr0.2.1
  have HR0 := Aside0.mk hr0
  have HM := Aside0.mk hmax
  have HCAP := Aside0.mk hcap
  have HGI := Aside0.mk hgi
  have HB := Aside0.mk (Below.refl w.heap.size w)
  obtain ⟨r, hr⟩ : ∃ r, r = order_Add.ixF (fun x => decide (id < x.f0)) l0 0 := ⟨_, rfl⟩
  rw [← hr]
  have HR := Aside0.mk hr.symm
  clear hr0 hmax hcap hgi hr hc0
  go_enter Try.func23, Try.ntmps23
  go_wp2
  repeat (go_quiet (fail); try go_wp2)
  go_loopg [8] l0.length (fun kq v8 w' => ∃ i : Nat, v8 = .int .i64 (i : Int) ∧ Aside0 (i ≤ l0.length) ∧ Aside0 (l0.length - i ≤ kq) ∧ Aside0 (order_Add.ixF (fun x => decide (id < x.f0)) (l0.drop i) (i : Int) = r) ∧ Aside0 (Below w.heap.size w w'))
  case atStart => exact ⟨0, rfl, ⟨by omega⟩, ⟨by omega⟩, ⟨by simpa using HR.out⟩, HB⟩
  case round =>
    clear HB
    obtain ⟨i, rfl, HI, HG, HA, HB⟩ := hrel
    by_cases c1 : (i : Int) < (l0.length : Int)
    · have p1 : 0 ≤ (i : Int) := by omega
      have HIN := Aside0.mk (show i < l0.length by omega)
      have hd : l0.drop i = rd_T25 l0 (i : Int) :: l0.drop (i + 1) := by
        rw [List.drop_eq_getElem_cons HIN.out]
        simp [rd_T25, HIN.out]
      have HA1 := HA.out
      rw [hd, order_Add.ixF] at HA1
      obtain ⟨ad, A4, c4, e1, hx0, hx1, hx2, hx3, hx4, hl4, hg4⟩ := at_T25 HR0.out (i : Int) p1 c1
      cases e1
      rw [Int.toNat_natCast] at hx0 hx1 hx2 hx3 hx4
      replace hx0 := (HB.out.cell (World.block_lt_of_cell? w _ hx0)).trans hx0
      replace hx1 := (HB.out.cell (World.block_lt_of_cell? w _ hx1)).trans hx1
      replace hx2 := (HB.out.cell (World.block_lt_of_cell? w _ hx2)).trans hx2
      replace hx3 := (HB.out.cell (World.block_lt_of_cell? w _ hx3)).trans hx3
      replace hx4 := (HB.out.cell (World.block_lt_of_cell? w _ hx4)).trans hx4
      have HCP := Aside0.mk ((HB.out.block gi HGI.out).trans HCAP.out)
      have hw2 : wrap64 ((i : Int) + 1) = ((i + 1 : Nat) : Int) := by
        have := HM.out
        unfold wrap64
        unfold maxLen at *
        omega
      have HW2 := Aside0.mk hw2
      generalize rd_T25 l0 (i : Int) = x at *
      replace p1 := eq_true p1
      replace c1 := eq_true c1
      clear hl4 hg4 hd HA
      cases hp : (decide (id < x.f0))
      · rw [hp, if_neg (by simp)] at HA1
        have HA2 := Aside0.mk HA1
        clear HA1
        go_wp2_with (go_at_call 24; with_reducible refine (order_Add.ixC id v1 v2 v3 v4 x A4 c4 gi _ false hp HCP.out).mono ?_; rintro e wv ⟨rfl, hb⟩; replace HB := Aside0.mk (below_step HB.out hb); clear hb HCP)
        go_roundg (l0.length - (i + 1))
        case measure => have := HIN.out; have := HG.out; omega
        case rel => exact ⟨i + 1, by first | rfl | rw [HW2.out], ⟨by have := HIN.out; omega⟩, ⟨by omega⟩, ⟨by rw [Int.natCast_add]; exact HA2.out⟩, HB⟩
      · rw [hp, if_pos rfl] at HA1
        subst HA1
        go_wp2_with (go_at_call 24; with_reducible refine (order_Add.ixC id v1 v2 v3 v4 x A4 c4 gi _ true hp HCP.out).mono ?_; rintro e wv ⟨rfl, hb⟩; replace HB := Aside0.mk (below_step HB.out hb); clear hb HCP)
        first | go_ret | go_ret2
        exact ⟨rfl, HB.out⟩
    · obtain rfl : i = l0.length := by have := HI.out; omega
      replace c1 := eq_false c1
      have HA1 := HA.out
      rw [List.drop_length, order_Add.ixF] at HA1
      subst HA1
      clear HA HR
      go_wp2
      repeat (go_quiet (fail); try go_wp2)
      first | go_ret | go_ret2
      exact ⟨rfl, HB.out⟩
theorem order_Add.ixF_bound (p : S25 → Bool) (l : List S25) : ∀ i : Int, order_Add.ixF p l i = -1 ∨ (i ≤ order_Add.ixF p l i ∧ order_Add.ixF p l i < i + l.length) := by
  induction l with
  | nil => intro i; exact .inl rfl
  | cons x t ih =>
    intro i
    rw [order_Add.ixF]
    by_cases h : p x = true
    · rw [if_pos h]
      simp only [List.length_cons]
      omega
    · rw [if_neg h]
      have := ih (i + 1)
      simp only [List.length_cons]
      omega
theorem order_Add.add0 (A : Option Addr) (n : Nat) : (if n = 0 then A else A.map (·.add (0 * 5))) = A := by
  split
  · rfl
  · cases A with
    | none => rfl
    | some a => simp [Addr.add]
def order_Add.ownAll : List S25 → Option (List S25)
  | [] => some []
  | x :: t => (order_own.f x.f0 x.f1 x.f2 x.f3 x.f4).bind fun r => (order_Add.ownAll t).bind fun u => some (⟨r.1, r.2.1, r.2.2.1, r.2.2.2.1, r.2.2.2.2⟩ :: u)
def order_Add.mid (l0 : List S25) (o : S25) (m : Nat) : List S25 := l0.take m ++ ([o] ++ l0.drop m)
def order_Add.f (l0 : List S25) (a1_0 : Int) (a1_1 : Int) (a1_2 : Int) (a1_3 : Int) (l1_4 : List S50) : Option (List S25 × Int) :=
  (order_at.f l0 a1_0).bind fun t => if t ≥ 0 then some ([], 11) else if 2000 ≤ l0.length then some ([], 12) else
    (order_Add.ownAll (order_Add.mid l0 ⟨a1_0, a1_1, a1_2, a1_3, l1_4⟩ (if order_Add.ixF (fun x => decide (a1_0 < x.f0)) l0 0 < 0 then l0.length else (order_Add.ixF (fun x => decide (a1_0 < x.f0)) l0 0).toNat))).bind fun ys => some (ys, 0)
theorem order_Add.own_len (a b c d : Int) (l : List S50) (r) (h : order_own.f a b c d l = some r) : r = (a, b, c, d, l) := by
  unfold order_own.f at h
  simp only [api_Span_33.f] at h
  split at h
  · simp at h
    exact h.symm
  · simp at h
theorem order_Add.ownAll_eq (l : List S25) : ∀ ys, order_Add.ownAll l = some ys → ys = l := by
  induction l with
  | nil => intro ys h; exact (Option.some.inj h).symm
  | cons x t ih =>
    intro ys h
    simp only [order_Add.ownAll, Option.bind_eq_some_iff] at h
    obtain ⟨r, hr, u, hu, h⟩ := h
    have e1 := order_Add.own_len _ _ _ _ _ _ hr
    have e2 := ih u hu
    subst e1
    subst e2
    exact (Option.some.inj h).symm
theorem order_Add.C3 {w : World} {g : Nat} {A0 A1 A2 : Option Addr} {c0 c1 c2 : Nat} {a b c : List S25} {na nb nc : Nat} (ha : na = a.length) (hb : nb = b.length) (hc : nc = c.length) (h : w.heap[g]? = some (.cells #[.slice A0 na c0, .slice A1 nb c1, .slice A2 nc c2] 22 (0, 0)))
    (h0 : Kd.C k25 w A0 a.length a) (l0 : a.length ≤ c0) (h1 : Kd.C k25 w A1 b.length b) (l1 : b.length ≤ c1) (h2 : Kd.C k25 w A2 c.length c) (l2 : c.length ≤ c2) : Kd.C (Kd.slice 25 k25) w (some ⟨g, 0, none⟩) 3 [a, b, c] := by
  subst ha
  subst hb
  subst hc
  refine ⟨rfl, by omega, fun _ => ⟨_, rfl, fun j p hj => ?_⟩⟩
  match j, hj with
  | 0, hj =>
    obtain rfl : a = p := by simpa using hj
    refine ⟨[.slice A0 a.length c0], rfl, ⟨A0, c0, rfl, l0, h0⟩, fun i u hu => ?_⟩
    match i, hu with
    | 0, hu => simp only [List.getElem?_cons_zero, Option.some.injEq] at hu; subst hu; exact (blk_cell h 0).trans rfl
  | 1, hj =>
    obtain rfl : b = p := by simpa using hj
    refine ⟨[.slice A1 b.length c1], rfl, ⟨A1, c1, rfl, l1, h1⟩, fun i u hu => ?_⟩
    match i, hu with
    | 0, hu => simp only [List.getElem?_cons_zero, Option.some.injEq] at hu; subst hu; exact (blk_cell h 1).trans rfl
  | 2, hj =>
    obtain rfl : c = p := by simpa using hj
    refine ⟨[.slice A2 c.length c2], rfl, ⟨A2, c2, rfl, l2, h2⟩, fun i u hu => ?_⟩
    match i, hu with
    | 0, hu => simp only [List.getElem?_cons_zero, Option.some.injEq] at hu; subst hu; exact (blk_cell h 2).trans rfl
theorem order_Add.C1 {w : World} {g : Nat} {x : S25} {A4 : Option Addr} {c4 : Nat} (h : w.heap[g]? = some (.cells #[.int .i64 x.f0, .int .i64 x.f1, .int .i64 x.f2, .int .i64 x.f3, .slice A4 x.f4.length c4] 25 (0, 0))) (h4 : Kd.C k50 w A4 x.f4.length x.f4) (l4 : x.f4.length ≤ c4) : Kd.C k25 w (some ⟨g, 0, none⟩) [x].length [x] := by
  refine ⟨rfl, by simp, fun _ => ⟨_, rfl, fun j p hj => ?_⟩⟩
  match j, hj with
  | 0, hj =>
    obtain rfl : x = p := by simpa using hj
    refine ⟨_, rfl, k25_mk w x l4 h4, fun i u hu => ?_⟩
    match i, hu with
    | 0, hu => simp only [List.getElem?_cons_zero, Option.some.injEq] at hu; subst hu; exact (blk_cell h 0).trans rfl
    | 1, hu => simp only [List.getElem?_cons_succ, List.getElem?_cons_zero, Option.some.injEq] at hu; subst hu; exact (blk_cell h 1).trans rfl
    | 2, hu => simp only [List.getElem?_cons_succ, List.getElem?_cons_zero, Option.some.injEq] at hu; subst hu; exact (blk_cell h 2).trans rfl
    | 3, hu => simp only [List.getElem?_cons_succ, List.getElem?_cons_zero, Option.some.injEq] at hu; subst hu; exact (blk_cell h 3).trans rfl
    | 4, hu => simp only [List.getElem?_cons_succ, List.getElem?_cons_zero, Option.some.injEq] at hu; subst hu; exact (blk_cell h 4).trans rfl
theorem order_Add.mk0 {P : Program} {ops : Array Oper} {rest : List Oper} {o : Oper} {a : Act} {Q : Exit → Act → World → Prop} {W : World} (hgd : o.guard = none) (t e : TypeId) (x y : Operand) (ho : o.op = .makeSlice t x y) (m sz bytes : Nat) (hx : a.eval x = .int .i64 0) (hy : a.eval y = .int .i64 (m : Int))
    (ht : P.underlying t = some (.slice e)) (z : Value) (hinfo : (P.info? e).map (fun i => (i.zero, i.size, i.bytes)) = some (some z, sz, bytes)) (hz : z.cells.size = sz) (hb0 : 0 < bytes) (hl : m * bytes ≤ 281474976710656)
    (h : ∀ v1 w1, w1.ownsRow W.heap.size e sz v1 0 [] → Below W.heap.size W w1 → wpList P ops Q rest (a.put o.dst v1) w1) : wpList P ops Q (o :: rest) a W := by
  obtain ⟨i0, hi, hzz⟩ := Option.map_eq_some_iff.1 hinfo
  simp only [Prod.mk.injEq] at hzz
  obtain ⟨hz0, hz1, hz2⟩ := hzz
  have hm : m ≤ 281474976710656 := Nat.le_trans (Nat.le_mul_of_pos_right _ hb0) hl
  have hr := run_make (P := P) W t e i0 z ht hi hz0 .i64 .i64 (0 : Int) (m : Int) (Int.le_refl _) (by omega)
    (by
      have h3 : ((i0.bytes * m : Nat) : Int) ≤ 281474976710656 := by rw [hz2, Nat.mul_comm]; omega
      rwa [Int.natCast_mul] at h3) (by omega)
  simp only [Int.toNat_natCast, Int.toNat_zero] at hr
  have hown := World.ownsRow_made (base := W.heap.size) (e := e) W (madeCells z.cells (m * i0.size)) m (Nat.le_refl _) (by simp [maxLen]; omega) (size_madeCells _ _)
  rw [hz1] at hr hown
  refine Kd.event_run hgd (v := .slice (some ⟨W.heap.size, 0, none⟩) 0 m) (w1 := W.alloc (.cells (madeCells z.cells (m * sz)) e)) ?_ (h _ _ hown (below_alloc (Below.refl _ _) _))
  simp [execOp, ho, hx, hy, hr]
theorem order_Add.S_own {w : World} {b0 base : Nat} {v : Value} (h : w.ownsRow b0 25 5 v 0 []) (hb : base ≤ b0) : Kd.S k25 25 w base (fun _ => True) v [] := ⟨fun _ => 0, Kd.R_lower ⟨fun _ _ => trivial, [], h, Reps.none _ _⟩ hb⟩
set_option maxHeartbeats 8000000 in
set_option maxRecDepth 100000 in
theorem order_Add.e1 (t : Int) (A0 : Option Addr) (c0 : Nat) (l0 : List S25) (a0 a1 a2 a3 : Int) (A4 : Option Addr) (c4 : Nat) (l4 : List S50) (w : World) (hr0 : Kd.C k25 w A0 l0.length l0) (hc0 : l0.length ≤ c0) (hr4 : Kd.C k50 w A4 l4.length l4) (hc4 : l4.length ≤ c4) (hat : order_at.f l0 a0 = some t) (ht : t ≥ 0) : Calls Try.prog 9 #[.slice A0 l0.length c0, .agg #[.int .i64 a0, .int .i64 a1, .int .i64 a2, .int .i64 a3, .slice A4 l4.length c4]] w fun e w' => ∃ v0_ : Value, e = .returned (.tuple #[v0_, .int .i64 11]) ∧ Kd.S k25 25 w' w.heap.size (fun _ => True) v0_ [] ∧ Below w.heap.size w w' := by
  have HR0 := Aside0.mk hr0
  have HC0 := Aside0.mk hc0
  have HR4 := Aside0.mk hr4
  have HC4 := Aside0.mk hc4
  clear hr0 hc0 hr4 hc4
  have HAT := Aside0.mk hat
  have ht1 : (t ≥ 0) = True := eq_true ht
  have ht2 : (0 ≤ t) = True := eq_true ht
  clear hat ht
  go_enter Try.func9, Try.ntmps9
  go_wp2_with (first | ((with_reducible refine gate_dst (N := 3) rfl ?_); refine box_event ?hg (N := 3) ?hd (cs := #[.int .i64 a0, .int .i64 a1, .int .i64 a2, .int .i64 a3, .slice A4 l4.length c4]) (t := 25) ?hr ?_; (case hd => rfl); (case hg => rfl); (case hr => first | (go_simp; done) | (go_simp; rfl)); intro gb hg_ wv hbox hb; have BB := Aside0.mk hbox; have HB := Aside0.mk hb; have HGB := Aside0.mk (Nat.le_of_eq hg_.symm); clear hb hbox hg_; have hb0 : wv.cell? ⟨gb, 0, none⟩ = some (.int .i64 a0) := (blk_cell BB.out 0).trans rfl) | (go_at_call 22; with_reducible refine (order_at.calls _ _ l0 a0 t _ (Kd.C_below HR0.out HB.out) HC0.out HAT.out).mono ?_; rintro e wv ⟨rfl, hb⟩; clear hb0; replace BB := Aside0.mk (blk_below BB.out hb); replace HB := Aside0.mk (below_step HB.out hb); clear hb))
  first | go_ret | go_ret2
  exact ⟨_, rfl, Kd.S_nil _ _ _ _ _, HB.out⟩
set_option maxHeartbeats 8000000 in
set_option maxRecDepth 100000 in
theorem order_Add.e2 (t : Int) (A0 : Option Addr) (c0 : Nat) (l0 : List S25) (a0 a1 a2 a3 : Int) (A4 : Option Addr) (c4 : Nat) (l4 : List S50) (w : World) (hr0 : Kd.C k25 w A0 l0.length l0) (hc0 : l0.length ≤ c0) (hr4 : Kd.C k50 w A4 l4.length l4) (hc4 : l4.length ≤ c4) (hat : order_at.f l0 a0 = some t) (ht : ¬ t ≥ 0) (hl : 2000 ≤ l0.length) : Calls Try.prog 9 #[.slice A0 l0.length c0, .agg #[.int .i64 a0, .int .i64 a1, .int .i64 a2, .int .i64 a3, .slice A4 l4.length c4]] w fun e w' => ∃ v0_ : Value, e = .returned (.tuple #[v0_, .int .i64 12]) ∧ Kd.S k25 25 w' w.heap.size (fun _ => True) v0_ [] ∧ Below w.heap.size w w' := by
  have HR0 := Aside0.mk hr0
  have HC0 := Aside0.mk hc0
  have HR4 := Aside0.mk hr4
  have HC4 := Aside0.mk hc4
  clear hr0 hc0 hr4 hc4
  have HAT := Aside0.mk hat
  have ht1 : (t ≥ 0) = False := eq_false ht
  have ht2 : (0 ≤ t) = False := eq_false ht
  have hl1 : ((2000 : Int) ≤ (l0.length : Int)) = True := eq_true (by omega)
  have hl2 : ((l0.length : Int) ≥ 2000) = True := eq_true (by omega)
  clear hl
  clear hat ht
  go_enter Try.func9, Try.ntmps9
  go_wp2_with (first | ((with_reducible refine gate_dst (N := 3) rfl ?_); refine box_event ?hg (N := 3) ?hd (cs := #[.int .i64 a0, .int .i64 a1, .int .i64 a2, .int .i64 a3, .slice A4 l4.length c4]) (t := 25) ?hr ?_; (case hd => rfl); (case hg => rfl); (case hr => first | (go_simp; done) | (go_simp; rfl)); intro gb hg_ wv hbox hb; have BB := Aside0.mk hbox; have HB := Aside0.mk hb; have HGB := Aside0.mk (Nat.le_of_eq hg_.symm); clear hb hbox hg_; have hb0 : wv.cell? ⟨gb, 0, none⟩ = some (.int .i64 a0) := (blk_cell BB.out 0).trans rfl) | (go_at_call 22; with_reducible refine (order_at.calls _ _ l0 a0 t _ (Kd.C_below HR0.out HB.out) HC0.out HAT.out).mono ?_; rintro e wv ⟨rfl, hb⟩; clear hb0; replace BB := Aside0.mk (blk_below BB.out hb); replace HB := Aside0.mk (below_step HB.out hb); clear hb))
  first | go_ret | go_ret2
  exact ⟨_, rfl, Kd.S_nil _ _ _ _ _, HB.out⟩
theorem order_Add.loadrow {P : Program} {o : Oper} {a : Act} {w : World} (ty : TypeId) (x : Operand) (ho : o.op = .load ty x) (g : Nat) (hx : a.eval x = .pointer (some ⟨g, 0, none⟩)) (t : TypeId) (cs : Array Value) (fr : Nat × Nat) (d : TypeDesc) (hg : w.heap[g]? = some (.cells cs t fr))
    (hu : P.underlying ty = some d) (hd : (match d with | .struct _ | .array _ _ => true | _ => false) = true) (hi : (P.info? ty).map (·.size) = some cs.size) : (execOp a.eval o).run P w = .ok (.value (.agg cs)) w := by
  unfold execOp
  simp only [ho, hx, Instr.loadAt, Instr.sureAddr, Sem.run_bind, Sem.run_pure, Result.andThen_ok, run_loadVar_row w g t ty cs fr d hg hu hd hi]
theorem order_Add.ixT (id : Int) (v1 v2 v3 v4 : Value) (gi : Nat) (A0 : Option Addr) (c0 : Nat) (l0 : List S25) (w : World) (hr0 : Kd.C k25 w A0 l0.length l0) (hc0 : l0.length ≤ c0) (hcap : w.heap[gi]? = some (.cells #[.int .i64 id, v1, v2, v3, v4] 25 (0, 0))) (r : Int) (hr : order_Add.ixF (fun x => decide (id < x.f0)) l0 0 = r) : Calls Try.prog 23 #[.slice A0 l0.length c0, .func (.func 24) #[] #[.pointer (some ⟨gi, 0, none⟩)]] w fun e w' => e = .returned (.int .i64 r) ∧ Below w.heap.size w w' := by
  subst hr
  exact order_Add.ix id v1 v2 v3 v4 gi A0 c0 l0 w hr0 hc0 hcap (blk_lt hcap)
theorem order_Add.okc {p b7 s2 s3 bw k : Nat} (h7 : b7 ≤ s2) (hw : s3 ≤ bw) (hk : ((k < p ∨ b7 ≤ k) ∨ s2 ≤ k) ∧ k < s3) : k < p ∨ (b7 ≤ k ∧ k < bw) := by omega
theorem order_Add.new2 (w : World) (o o' : Obj) : ((w.alloc o).alloc o').heap[w.heap.size + 1]? = some o' := by
  have h := heap_alloc_new (w.alloc o) o'
  rwa [show (w.alloc o).heap.size = w.heap.size + 1 by simp] at h
set_option maxHeartbeats 8000000 in
set_option maxRecDepth 100000 in
theorem order_Add.m1 (t : Int) (A0 : Option Addr) (c0 : Nat) (l0 : List S25) (a0 a1 a2 a3 : Int) (A4 : Option Addr) (c4 : Nat) (l4 : List S50) (w : World) (hr0 : Kd.C k25 w A0 l0.length l0) (hc0 : l0.length ≤ c0) (hr4 : Kd.C k50 w A4 l4.length l4) (hc4 : l4.length ≤ c4) (hat : order_at.f l0 a0 = some t) (ht : ¬ t ≥ 0) (hl : ¬ 2000 ≤ l0.length) (t2 : Int) (h2 : order_Add.ixF (fun x => decide (a0 < x.f0)) l0 0 = t2) (m : Nat) (hm : m ≤ l0.length) (hcase : t2 < 0 ∧ m = l0.length) (ys : List S25) (hys : order_Add.ownAll (order_Add.mid l0 ⟨a0, a1, a2, a3, l4⟩ m) = some ys) : Calls Try.prog 9 #[.slice A0 l0.length c0, .agg #[.int .i64 a0, .int .i64 a1, .int .i64 a2, .int .i64 a3, .slice A4 l4.length c4]] w fun e w' => ∃ v0_ : Value, e = .returned (.tuple #[v0_, .int .i64 0]) ∧ Kd.S k25 25 w' w.heap.size (fun _ => True) v0_ ys ∧ Below w.heap.size w w' := by
  have HR0 := Aside0.mk hr0
  have HC0 := Aside0.mk hc0
  have HR4 := Aside0.mk hr4
  have HC4 := Aside0.mk hc4
  clear hr0 hc0 hr4 hc4
  have HAT := Aside0.mk hat
  have H2 := Aside0.mk h2
  have HL := Aside0.mk (show l0.length < 2000 by omega)
  have HM := Aside0.mk hm
  have ht1 : (t ≥ 0) = False := eq_false ht
  have ht2 : (0 ≤ t) = False := eq_false ht
  have hl1 : ((2000 : Int) ≤ (l0.length : Int)) = False := eq_false (by omega)
  have hl2 : ((l0.length : Int) ≥ 2000) = False := eq_false (by omega)
  obtain ⟨hneg, rfl⟩ := hcase
  have hc1 : (t2 < 0) = True := eq_true hneg
  clear hneg
  obtain ⟨n1, hn1⟩ : ∃ n1, n1 = l0.length + 1 := ⟨_, rfl⟩
  have HN1 := Aside0.mk hn1
  have hw1 : wrap64 ((l0.length : Int) + 1) = (n1 : Int) := by unfold wrap64; omega
  have HW1 := Aside0.mk hw1
  clear hw1
  have HLm : l0.length ≤ maxLen := HR0.out.2.1
  have hs1 : ∀ w : World, (Instr.slice 22 (.slice A0 l0.length c0) none (some (.int .i64 (l0.length : Int))) none).run Try.prog w = .ok (.slice A0 l0.length c0) w := by
    intro w
    have hmc : (l0.length : Int) ≤ (c0 : Int) := by have := HC0.out; omega
    have h := run_slice_h (P := Try.prog) w 22 A0 l0.length c0 Try.underlying22 .i64 (l0.length : Int) (by omega) hmc
    rw [h, show (sizeOf (Try.prog.elem 22)).run Try.prog w = .ok 5 w from Try.sizeOf25 w]
    simp only [sliced, Int.toNat_natCast, Nat.sub_zero]
    simp [Try.sizeOf25, Result.andThen, order_Add.add0]
  obtain ⟨AD, hAD⟩ : ∃ AD, AD = (if c0 = l0.length then A0 else A0.map (·.add (l0.length * 5))) := ⟨_, rfl⟩
  have HAD := Aside0.mk hAD
  have hs2 : ∀ w : World, (Instr.slice 22 (.slice A0 l0.length c0) (some (.int .i64 (l0.length : Int))) none none).run Try.prog w = .ok (.slice AD (l0.length - l0.length) (c0 - l0.length)) w := by
    intro w
    rw [hAD]
    have h := run_slice_l (P := Try.prog) w 22 A0 l0.length c0 Try.underlying22 .i64 (l0.length : Int) (by omega) (by omega)
    rw [h, show (sizeOf (Try.prog.elem 22)).run Try.prog w = .ok 5 w from Try.sizeOf25 w]
    simp [Try.sizeOf25, Result.andThen, sliced]
  have HTK := Aside0.mk (show l0.length = (l0.take l0.length).length by rw [List.length_take]; omega)
  have HDR := Aside0.mk (show 0 = (l0.drop l0.length).length by rw [List.length_drop] <;> omega)
  have HTC := Aside0.mk (show (l0.take l0.length).length ≤ c0 by rw [List.length_take]; have := HC0.out; omega)
  have HDC := Aside0.mk (show (l0.drop l0.length).length ≤ c0 - l0.length by rw [List.length_drop]; have := HC0.out; omega)
  obtain ⟨XL, hXL⟩ : ∃ XL, XL = order_Add.mid l0 ⟨a0, a1, a2, a3, l4⟩ l0.length := ⟨_, rfl⟩
  have HFL := Aside0.mk (show [l0.take l0.length, [⟨a0, a1, a2, a3, l4⟩], l0.drop l0.length].flatten = XL by rw [hXL]; simp [order_Add.mid])
  have HXL := Aside0.mk (show XL.length = l0.length + 1 by rw [hXL]; simp [order_Add.mid] <;> omega)
  have HCC := Aside0.mk (show (if [l0.take l0.length, [⟨a0, a1, a2, a3, l4⟩], l0.drop l0.length].flatten.length < 2513169434916 then some [l0.take l0.length, [⟨a0, a1, a2, a3, l4⟩], l0.drop l0.length].flatten else none) = some [l0.take l0.length, [⟨a0, a1, a2, a3, l4⟩], l0.drop l0.length].flatten from if_pos (by rw [HFL.out, HXL.out]; have := HL.out; omega))
  have HF0 := Aside0.mk (Kd.C_F order_Add.heap HR0.out)
  have HF4 := Aside0.mk (Kd.C_F order_Add.heap50 HR4.out)
  have HCONT := Aside0.mk (show ∀ (b7 : Nat) (wd : World), Below w.heap.size w wd → b7 ≤ wd.heap.size → Calls Try.prog 25 #[.slice (some ⟨wd.heap.size + 1, 0, none⟩) 3 3] (((wd.alloc (.cells #[.int .i64 a0, .int .i64 a1, .int .i64 a2, .int .i64 a3, .slice A4 l4.length c4] 25)).alloc (.cells #[.slice A0 l0.length c0, .slice (some ⟨wd.heap.size, 0, none⟩) 1 1, .slice AD 0 (c0 - l0.length)] 22)).drew) fun e w' => ∃ v0_ : Value, e = .returned v0_ ∧ Kd.N k25 25 w' (((wd.alloc (.cells #[.int .i64 a0, .int .i64 a1, .int .i64 a2, .int .i64 a3, .slice A4 l4.length c4] 25)).alloc (.cells #[.slice A0 l0.length c0, .slice (some ⟨wd.heap.size, 0, none⟩) 1 1, .slice AD 0 (c0 - l0.length)] 22)).drew).heap.size (fun k => (k < w.heap.size ∨ b7 ≤ k) ∨ (((wd.alloc (.cells #[.int .i64 a0, .int .i64 a1, .int .i64 a2, .int .i64 a3, .slice A4 l4.length c4] 25)).alloc (.cells #[.slice A0 l0.length c0, .slice (some ⟨wd.heap.size, 0, none⟩) 1 1, .slice AD 0 (c0 - l0.length)] 22)).drew).heap.size ≤ k) v0_ XL ∧ Below (((wd.alloc (.cells #[.int .i64 a0, .int .i64 a1, .int .i64 a2, .int .i64 a3, .slice A4 l4.length c4] 25)).alloc (.cells #[.slice A0 l0.length c0, .slice (some ⟨wd.heap.size, 0, none⟩) 1 1, .slice AD 0 (c0 - l0.length)] 22)).drew).heap.size (((wd.alloc (.cells #[.int .i64 a0, .int .i64 a1, .int .i64 a2, .int .i64 a3, .slice A4 l4.length c4] 25)).alloc (.cells #[.slice A0 l0.length c0, .slice (some ⟨wd.heap.size, 0, none⟩) 1 1, .slice AD 0 (c0 - l0.length)] 22)).drew) w' from by
    intro b7 wd hb h7
    rw [← HFL.out]
    have hbb : Below w.heap.size w (((wd.alloc (.cells #[.int .i64 a0, .int .i64 a1, .int .i64 a2, .int .i64 a3, .slice A4 l4.length c4] 25)).alloc (.cells #[.slice A0 l0.length c0, .slice (some ⟨wd.heap.size, 0, none⟩) 1 1, .slice AD 0 (c0 - l0.length)] 22)).drew) := below_drew (below_alloc (below_alloc hb _) _)
    have hsz : wd.heap.size + 1 < (((wd.alloc (.cells #[.int .i64 a0, .int .i64 a1, .int .i64 a2, .int .i64 a3, .slice A4 l4.length c4] 25)).alloc (.cells #[.slice A0 l0.length c0, .slice (some ⟨wd.heap.size, 0, none⟩) 1 1, .slice AD 0 (c0 - l0.length)] 22)).drew).heap.size := by simp [World.drew]
    refine order_Add.concat (some ⟨wd.heap.size + 1, 0, none⟩) 3 [l0.take l0.length, [⟨a0, a1, a2, a3, l4⟩], l0.drop l0.length] _ _ (fun k => k < w.heap.size ∨ b7 ≤ k) (fun W' hW => ?_) (Nat.le_refl _) HCC.out
    have hA := (Kd.F_below HF0.out hbb) W' (fun k hk hlt => hW k (.inl hk) hlt)
    have h4 := (Kd.F_below HF4.out hbb) W' (fun k hk hlt => hW k (.inl hk) hlt)
    have hg1 := (hW wd.heap.size (.inr h7) (by omega)).trans (show (((wd.alloc (.cells #[.int .i64 a0, .int .i64 a1, .int .i64 a2, .int .i64 a3, .slice A4 l4.length c4] 25)).alloc (.cells #[.slice A0 l0.length c0, .slice (some ⟨wd.heap.size, 0, none⟩) 1 1, .slice AD 0 (c0 - l0.length)] 22)).drew).heap[wd.heap.size]? = _ from blk_alloc (blk_new wd _) _)
    have hg2 := (hW (wd.heap.size + 1) (.inr (by omega)) hsz).trans (show (((wd.alloc (.cells #[.int .i64 a0, .int .i64 a1, .int .i64 a2, .int .i64 a3, .slice A4 l4.length c4] 25)).alloc (.cells #[.slice A0 l0.length c0, .slice (some ⟨wd.heap.size, 0, none⟩) 1 1, .slice AD 0 (c0 - l0.length)] 22)).drew).heap[wd.heap.size + 1]? = _ from order_Add.new2 wd _ _)
    exact order_Add.C3 HTK.out rfl HDR.out hg2 (Kd.C_take hA HM.out) HTC.out (order_Add.C1 (x := ⟨a0, a1, a2, a3, l4⟩) hg1 h4 HC4.out) (Nat.le_refl _) (by rw [HAD.out]; exact Kd.C_drop hA HM.out HC0.out) HDC.out)
  rw [← hXL] at hys
  have HYS := Aside0.mk hys
  clear hat ht h2 hl hm hXL hys HLm hn1 hAD
  go_enter Try.func9, Try.ntmps9
  go_wp2_with (first | ((with_reducible refine gate_dst (N := 3) rfl ?_); refine box_event ?hg (N := 3) ?hd (cs := #[.int .i64 a0, .int .i64 a1, .int .i64 a2, .int .i64 a3, .slice A4 l4.length c4]) (t := 25) ?hr ?_; (case hd => rfl); (case hg => rfl); (case hr => first | (go_simp; done) | (go_simp; rfl)); intro gb hg_ wv hbox hb; have BB := Aside0.mk hbox; have HB := Aside0.mk hb; have HGB := Aside0.mk (Nat.le_of_eq hg_.symm); clear hb hbox hg_; have hb0 : wv.cell? ⟨gb, 0, none⟩ = some (.int .i64 a0) := (blk_cell BB.out 0).trans rfl) | (go_at_call 22; with_reducible refine (order_at.calls _ _ l0 a0 t _ (Kd.C_below HR0.out HB.out) HC0.out HAT.out).mono ?_; rintro e wv ⟨rfl, hb⟩; clear hb0; replace BB := Aside0.mk (blk_below BB.out hb); replace HB := Aside0.mk (below_step HB.out hb); clear hb) | (go_at_call 23; with_reducible refine (order_Add.ixT a0 (.int .i64 a1) (.int .i64 a2) (.int .i64 a3) (.slice A4 l4.length c4) gb A0 c0 l0 _ (Kd.C_below HR0.out HB.out) HC0.out BB.out _ H2.out).mono ?_; rintro e wv ⟨rfl, hb⟩; replace BB := Aside0.mk (blk_below BB.out hb); replace HB := Aside0.mk (below_step HB.out hb); clear hb) | ((with_reducible refine gate_dst (N := 30) rfl ?_); refine order_Add.mk0 rfl 22 25 _ _ rfl n1 5 56 rfl (by first | exact congrArg (Value.int .i64) HW1.out | rfl) Try.underlying22 _ order_Add.inf rfl (by decide) (by have := HN1.out; have := HL.out; omega) ?_; intro v7 wv ho hb; obtain ⟨b7, hb7⟩ : ∃ b7, b7 = wv.heap.size := ⟨_, rfl⟩; have HS7 := Aside0.mk (Kd.S_mono (Kd.S_bound (order_Add.S_own ho (below_size HB.out))) (fun k hk => (⟨hk.2.1, by rw [hb7]; exact hk.2.2.1⟩ : w.heap.size ≤ k ∧ k < b7))); have HB7 := Aside0.mk (Nat.le_of_eq hb7); replace BB := Aside0.mk (blk_below BB.out hb); replace HB := Aside0.mk (below_step HB.out hb); clear ho hb hb7))
  refine start_ (n := 12) (S := fun w' => w'.heap[gb]? = some (.cells #[.int .i64 a0, .int .i64 a1, .int .i64 a2, .int .i64 a3, .slice A4 l4.length c4] 25 (0, 0))) (ds := []) #[false, false, false, false, false, false, false, false, false, false, false, false] (by kernel_rfl) rfl rfl (BB.out) (fun hHeld => ?_)
  refine pure_ (i := 0) (N := some 31) (v := ?_) (a' := ?_) #[true, false, false, false, false, false, false, false, false, false, false, false] rfl rfl (by kernel_rfl) (fun _ _ _ h => h) (Or.inl ⟨by rfl, ?_⟩) ?_ ?_
  rotate_left
  · intro w'
    go_simp
    with_reducible rfl
  rotate_left
  · simp only [Act.put, List.setIfInBounds_toArray, List.set_cons_zero, List.set_cons_succ, i64_w, i32_w]
    rfl
  refine pure_ (i := 1) (N := some 32) (v := ?_) (a' := ?_) #[true, true, false, false, false, false, false, false, false, false, false, false] rfl rfl (by kernel_rfl) (fun _ _ _ h => h) (Or.inl ⟨by rfl, ?_⟩) ?_ ?_
  rotate_left
  · intro w'
    go_simp
    with_reducible rfl
  rotate_left
  · simp only [Act.put, List.setIfInBounds_toArray, List.set_cons_zero, List.set_cons_succ, i64_w, i32_w]
    rfl
  refine pure_ (i := 2) (N := some 33) (v := ?_) (a' := ?_) #[true, true, true, false, false, false, false, false, false, false, false, false] rfl rfl (by kernel_rfl) (fun _ _ _ h => h) (Or.inl ⟨by rfl, ?_⟩) ?_ ?_
  rotate_left
  · intro w'
    go_simp
    with_reducible rfl
  rotate_left
  · simp only [Act.put, List.setIfInBounds_toArray, List.set_cons_zero, List.set_cons_succ, i64_w, i32_w]
    rfl
  refine pure_ (i := 5) (N := some 36) (v := ?_) (a' := ?_) #[true, true, true, false, false, true, false, false, false, false, false, false] rfl rfl (by kernel_rfl) (fun _ _ _ h => h) (Or.inl ⟨by rfl, ?_⟩) ?_ ?_
  rotate_left
  · intro w'
    go_simp
    with_reducible rfl
  rotate_left
  · simp only [Act.put, List.setIfInBounds_toArray, List.set_cons_zero, List.set_cons_succ, i64_w, i32_w]
    rfl
  refine pure_ (i := 6) (N := some 37) (v := ?_) (a' := ?_) #[true, true, true, false, false, true, true, false, false, false, false, false] rfl rfl (by kernel_rfl) (fun _ _ _ h => h) (Or.inl ⟨by rfl, ?_⟩) ?_ ?_
  rotate_left
  · intro w'
    go_simp
    with_reducible rfl
  rotate_left
  · simp only [Act.put, List.setIfInBounds_toArray, List.set_cons_zero, List.set_cons_succ, i64_w, i32_w]
    rfl
  refine pure_ (i := 7) (N := some 38) (v := ?_) (a' := ?_) #[true, true, true, false, false, true, true, true, false, false, false, false] rfl rfl (by kernel_rfl) (fun _ _ _ h => h) (Or.inl ⟨by rfl, ?_⟩) ?_ ?_
  rotate_left
  · intro w'
    go_simp
    with_reducible rfl
  rotate_left
  · simp only [Act.put, List.setIfInBounds_toArray, List.set_cons_zero, List.set_cons_succ, i64_w, i32_w]
    rfl
  refine pure_ (i := 11) (N := some 42) (v := ?_) (a' := ?_) #[true, true, true, false, false, true, true, true, false, false, false, true] rfl rfl (by kernel_rfl) (fun _ _ _ h => h) (Or.inl ⟨by rfl, ?_⟩) ?_ ?_
  rotate_left
  · intro w'
    go_simp
    with_reducible rfl
  rotate_left
  · simp only [Act.put, List.setIfInBounds_toArray, List.set_cons_zero, List.set_cons_succ, i64_w, i32_w]
    rfl
  refine take_ (i := 3) (N := some 34) (v := ?_) (a' := ?_) #[true, true, true, true, false, true, true, true, false, false, false, true] rfl rfl (by kernel_rfl) (fun _ _ _ h => h) (Or.inl ⟨by rfl, ?_⟩) hHeld ?_ ?_
  rotate_left
  · intro w' s0
    refine order_Add.loadrow 25 (.tmp 3) ?_ gb ?_ 25 #[.int .i64 a0, .int .i64 a1, .int .i64 a2, .int .i64 a3, .slice A4 l4.length c4] (0, 0) _ s0 Try.underlying25 rfl (by kernel_rfl)
    · rfl
    · rfl
  rotate_left
  · simp only [Act.put, List.setIfInBounds_toArray, List.set_cons_zero, List.set_cons_succ, i64_w, i32_w]
    rfl
  refine one_ (i := 4) (N := some 35) #[true, true, true, true, true, true, true, true, false, false, false, true] rfl rfl (by kernel_rfl) (by decide) (fun K hK => ?_)
  refine value_ (w1 := ?_) (v := ?_) (by rfl) rfl ?_ ?_
  rotate_left 2
  · go_simp
    constructor
    · rfl
    · rfl
  refine hK.out _ _ (blk_alloc BB.out _) (fun hHeld => ?_)
  clear hK K
  refine norm_ (a' := ?_) ?_ ?_
  rotate_left
  · show Act.put _ (some 35) _ = _
    simp only [Act.put, List.setIfInBounds_toArray, List.set_cons_zero, List.set_cons_succ, i64_w, i32_w]
    rfl
  refine one_ (i := 8) (N := some 39) #[true, true, true, true, true, true, true, true, true, false, false, true] rfl rfl (by kernel_rfl) (by decide) (fun K hK => ?_)
  refine value_ (w1 := ?_) (v := ?_) (by rfl) rfl ?_ ?_
  rotate_left 2
  · go_simp
    constructor
    · rfl
    · rfl
  refine hK.out _ _ (blk_alloc (blk_alloc BB.out _) _) (fun hHeld => ?_)
  clear hK K
  refine norm_ (a' := ?_) ?_ ?_
  rotate_left
  · show Act.put _ (some 39) _ = _
    simp only [Act.put, List.setIfInBounds_toArray, List.set_cons_zero, List.set_cons_succ, i64_w, i32_w]
    rfl
  refine one_ (i := 9) (N := some 40) #[true, true, true, true, true, true, true, true, true, true, false, true] rfl rfl (by kernel_rfl) (by decide) (fun K hK => ?_)
  refine goes_ Try.func25 (by kernel_rfl) rfl #[.slice (some ⟨wv.heap.size + 1, 0, none⟩) 3 3] (by rfl) rfl rfl (by first | rfl | (simp only [List.map_toArray, List.map_cons, List.map_nil]; rfl)) ?_
  with_reducible refine (HCONT.out b7 _ HB.out HB7.out).mono ?_
  rintro e wv ⟨vc, rfl, hN, hb⟩
  replace BB := Aside0.mk (blk_below (blk_drew (blk_alloc (blk_alloc BB.out _) _)) hb)
  replace HB := Aside0.mk (below_step (below_drew (below_alloc (below_alloc HB.out _) _)) hb)
  replace HS7 := Aside0.mk (Kd.S_below (Kd.S_drew (Kd.S_alloc (Kd.S_alloc HS7.out _) _)) hb)
  have HWB := Aside0.mk hb
  obtain ⟨Ac, cc, hv⟩ := Kd.N_slice hN
  subst hv
  obtain ⟨bw, hbw⟩ : ∃ bw, bw = wv.heap.size := ⟨_, rfl⟩
  have HX := Aside0.mk (Kd.F_mono (ok' := fun k => k < w.heap.size ∨ (b7 ≤ k ∧ k < bw)) (Kd.F_bound (Kd.N_F hN)) (fun k hk => order_Add.okc (Nat.le_trans HB7.out (below_size (below_drew (below_alloc (below_alloc (Below.refl _ _) _) _)))) (Nat.le_of_eq hbw.symm) hk))
  have HBW := Aside0.mk (Nat.le_of_eq hbw)
  have HSB := Aside0.mk (show w.heap.size ≤ bw by rw [hbw]; exact below_size HB.out)
  clear hN hb hbw
  refine ⟨_, rfl, ?_⟩
  refine hK.out _ _ (BB.out) (fun hHeld => ?_)
  clear hK K
  refine norm_ (a' := ?_) ?_ ?_
  rotate_left
  · show Act.put _ (some 40) _ = _
    simp only [Act.put, List.setIfInBounds_toArray, List.set_cons_zero, List.set_cons_succ, i64_w, i32_w]
    rfl
  refine pure_ (i := 10) (N := some 41) (v := ?_) (a' := ?_) #[true, true, true, true, true, true, true, true, true, true, true, true] rfl rfl (by kernel_rfl) (fun _ _ _ h => h) (Or.inl ⟨by rfl, ?_⟩) ?_ ?_
  rotate_left
  · intro w'
    go_simp
    with_reducible rfl
  rotate_left
  · simp only [Act.put, List.setIfInBounds_toArray, List.set_cons_zero, List.set_cons_succ, i64_w, i32_w]
    rfl
  refine done_ (by kernel_rfl) ?_

  replace HS7 := Aside0.mk (Kd.S_mono HS7.out (fun k hk => (.inl hk : ((w.heap.size ≤ k ∧ k < b7) ∨ bw ≤ k))))
  clear HCONT HF0 HF4 BB HWB hHeld
  go_wp2
  go_loopg [7, 42] XL.length (fun kq v7 v42 w' => ∃ (j : Nat) (xs zs : List S25), v42 = .int .i64 (j : Int) ∧ Aside0 (j ≤ XL.length) ∧ Aside0 (XL.length - j ≤ kq) ∧ Aside0 (order_Add.ownAll (XL.drop j) = some zs ∧ xs ++ zs = ys) ∧ Aside0 (xs.length = j) ∧ Aside0 (Kd.S k25 25 w' w.heap.size (fun k => (w.heap.size ≤ k ∧ k < b7) ∨ bw ≤ k) v7 xs) ∧ Aside0 (Kd.F k25 w' (fun k => k < w.heap.size ∨ (b7 ≤ k ∧ k < bw)) Ac XL.length XL) ∧ Aside0 (bw ≤ w'.heap.size) ∧ Aside0 (Below w.heap.size w w'))
  case atStart => exact ⟨0, [], ys, rfl, ⟨by omega⟩, ⟨by omega⟩, ⟨HYS.out, rfl⟩, ⟨rfl⟩, HS7, HX, HBW, HB⟩
  case round =>
    clear HB HX HBW HS7
    obtain ⟨j, xs, zs, rfl, HJ, HG, HZ, HXS, HO, HX, HBW, HB⟩ := hrel
    by_cases c1 : (j : Int) < (XL.length : Int)
    · have p1 : 0 ≤ (j : Int) := by omega
      have HJN := Aside0.mk (show j < XL.length by omega)
      have hd : XL.drop j = rd_T25 XL (j : Int) :: XL.drop (j + 1) := by
        rw [List.drop_eq_getElem_cons HJN.out]
        simp [rd_T25, HJN.out]
      have hz := HZ.out.1
      have hz2 := HZ.out.2
      rw [hd] at hz
      obtain ⟨ad, A5, c5, e1, hx0, hx1, hx2, hx3, hx4, hl5, hg5⟩ := at_T25 (Kd.F_now HX.out) (j : Int) p1 c1
      cases e1
      rw [Int.toNat_natCast] at hx0 hx1 hx2 hx3 hx4
      have HI := Aside0.mk (Kd.C_F order_Add.heap50 hg5)
      have HC5 := Aside0.mk hl5
      have hw2 : wrap64 ((j : Int) + 1) = ((j + 1 : Nat) : Int) := by
        have := HXL.out
        have := HL.out
        unfold wrap64
        omega
      have HW2 := Aside0.mk hw2
      generalize rd_T25 XL (j : Int) = x at *
      simp only [order_Add.ownAll, Option.bind_eq_some_iff] at hz
      obtain ⟨r, hr, u, hu, hz⟩ := hz
      have e1 := order_Add.own_len _ _ _ _ _ _ hr
      subst e1
      have HOWN := Aside0.mk hr
      have HU := Aside0.mk hu
      have HZS := Aside0.mk (show (xs ++ [(⟨x.f0, x.f1, x.f2, x.f3, x.f4⟩ : S25)]) ++ u = ys by rw [← hz2, ← Option.some.inj hz]; simp)
      clear hz hz2 hd hr hu HZ hg5 hl5
      replace p1 := eq_true p1
      replace c1 := eq_true c1
      go_wp2_with (first | ((with_reducible refine gate_dst (N := 9) rfl ?_); refine box_event ?hg (N := 9) ?hd (cs := #[.int .i64 0, .int .i64 0, .int .i64 0, .int .i64 0, .slice none 0 0]) (t := 25) ?hr ?_; (case hd => rfl); (case hg => rfl); (case hr => first | (go_simp; done) | (go_simp; rfl)); intro gx hg_ w2 hbox hb; have HGX := Aside0.mk (show bw ≤ gx by rw [hg_]; exact HBW.out); have SX := Aside0.mk (show w.heap.size ≤ gx by rw [hg_]; exact below_size HB.out); replace HO := Aside0.mk (Kd.S_mono (Kd.S_old HO.out hb) (fun k hk => (⟨hk.1, by rw [hg_]; exact hk.2⟩ : ((w.heap.size ≤ k ∧ k < b7) ∨ bw ≤ k) ∧ k < gx))); replace HI := Aside0.mk (Kd.F_mono (ok' := fun k => k < gx) (Kd.F_below HI.out hb) (fun k hk => by rw [hg_]; exact hk)); replace HX := Aside0.mk (Kd.F_below HX.out hb); have HBX := Aside0.mk hbox; replace HB := Aside0.mk (below_step HB.out hb); clear hb hbox hg_ hx0 hx1 hx2 hx3 hx4) | ((with_reducible refine gate_store (t := 25) (p := 9) rfl ?_); refine wpList_store_row rfl 25 _ _ rfl gx #[.int .i64 x.f0, .int .i64 x.f1, .int .i64 x.f2, .int .i64 x.f3, .slice A5 x.f4.length c5] rfl rfl 25 #[.int .i64 0, .int .i64 0, .int .i64 0, .int .i64 0, .slice none 0 0] HBX.out (by kernel_rfl) rfl (by first | kernel_rfl | (simp [Value.oneCell']; done) | decide) ?_; obtain ⟨wn, hw⟩ : ∃ wn, wn = w2.setRow gx #[.int .i64 x.f0, .int .i64 x.f1, .int .i64 x.f2, .int .i64 x.f3, .slice A5 x.f4.length c5] := ⟨_, rfl⟩; rw [← hw]; have hst : ∀ k, k ≠ gx → wn.heap[k]? = w2.heap[k]? := (fun k hk => by rw [hw]; exact setRow_other _ _ _ _ hk); replace HO := Aside0.mk (Kd.S_step HO.out (fun k hk _ => hst k (Nat.ne_of_lt hk.2))); replace HI := Aside0.mk (Kd.F_step HI.out (fun k hk _ => hst k (Nat.ne_of_lt hk))); replace HX := Aside0.mk (Kd.F_step HX.out (fun k hk _ => hst k (by have := HGX.out; have := SX.out; omega))); replace HBX := Aside0.mk (show wn.heap[gx]? = some (.cells #[.int .i64 x.f0, .int .i64 x.f1, .int .i64 x.f2, .int .i64 x.f3, .slice A5 x.f4.length c5] 25 (0, 0)) by rw [hw]; exact setRow_heap _ _ _ _ _ _ HBX.out); replace HB := Aside0.mk (show Below w.heap.size w wn by rw [hw]; exact below_setRow HB.out SX.out _); clear hw hst) | ((with_reducible refine gate_dst (N := 47) rfl ?_); refine wpList_load_row rfl 25 (.tmp 9) rfl gx rfl 25 #[.int .i64 x.f0, .int .i64 x.f1, .int .i64 x.f2, .int .i64 x.f3, .slice A5 x.f4.length c5] (0, 0) _ HBX.out Try.underlying25 rfl (by kernel_rfl) ?_) | (go_at_call 26; with_reducible refine (order_own.calls x.f0 x.f1 x.f2 x.f3 A5 c5 x.f4 x.f0 x.f1 x.f2 x.f3 x.f4 _ (Kd.F_now HI.out) HC5.out HOWN.out).mono ?_; rintro e w3 ⟨vq, rfl, hR, hb⟩; obtain ⟨Aq, cq, eq_⟩ := Kd.R_slice hR; subst eq_; have hgx := blk_lt HBX.out; have HQ := Aside0.mk (Kd.R_lower (Kd.R_mono (ok' := fun k => gx < k) (Kd.R_bound hR) (fun k hk => Nat.lt_of_lt_of_le hgx hk.2.1)) (below_size HB.out)); replace HBX := Aside0.mk (blk_below HBX.out hb); replace HO := Aside0.mk (Kd.S_below HO.out hb); replace HX := Aside0.mk (Kd.F_below HX.out hb); replace HB := Aside0.mk (below_step HB.out hb); clear hR hb hgx HI) | (at_builtin; refine Kd.S_append k25 (w0 := w) w.heap.size rfl _ _ 22 25 (.agg #[.int .i64 0, .int .i64 0, .int .i64 0, .int .i64 0, .slice none 0 0]) 56 rfl Try.underlying22 order_Add.inf rfl (by decide) (by decide) _ xs (⟨x.f0, x.f1, x.f2, x.f3, x.f4⟩ : S25) [.int .i64 x.f0, .int .i64 x.f1, .int .i64 x.f2, .int .i64 x.f3, .slice Aq x.f4.length cq] (fun k => (w.heap.size ≤ k ∧ k < b7) ∨ bw ≤ k) (fun k => gx < k) rfl rfl (k25_mkM _ _ _ (⟨x.f0, x.f1, x.f2, x.f3, x.f4⟩ : S25) HQ.out) (fun k hk => ⟨.inr (by have := HGX.out; omega), fun e => by have := ((Kd.S_R HO.out).1 k e.symm).2; omega⟩) (fun k hk => .inr (by have := blk_lt HBX.out; have := HGX.out; omega)) (Kd.S_mono HO.out (fun k hk => ⟨hk.1, by have := hk.2; omega⟩)) HB.out (below_size HB.out) (by have := HXS.out; have := HJN.out; have := HXL.out; have := HL.out; omega) ?_; intro v1 w4 ho hb hg _; replace HX := Aside0.mk (Kd.F_grown HX.out hg (fun k hk e => by have := ((Kd.S_R HO.out).1 k e.symm).1; have := HSB.out; omega)); replace HBW := Aside0.mk (show bw ≤ w4.heap.size by have := blk_lt HBX.out; have := HGX.out; have := hg.size; omega); replace HO := Aside0.mk ho; replace HB := Aside0.mk hb; clear ho hb hg HBX HQ))
      go_roundg (XL.length - (j + 1))
      case measure => have := HJN.out; have := HG.out; omega
      case rel => exact ⟨j + 1, _, u, by first | rfl | rw [HW2.out], ⟨by have := HJN.out; omega⟩, ⟨by omega⟩, ⟨HU.out, HZS.out⟩, ⟨by rw [List.length_append]; have := HXS.out; simp; omega⟩, HO, HX, HBW, HB⟩
    · obtain rfl : j = XL.length := by have := HJ.out; omega
      replace c1 := eq_false c1
      have hz := HZ.out.1
      rw [List.drop_length, order_Add.ownAll] at hz
      have hy := HZ.out.2
      rw [← Option.some.inj hz, List.append_nil] at hy
      subst hy
      clear HZ hz HYS
      go_wp2
      repeat (go_quiet (fail); try go_wp2)
      first | go_ret | go_ret2
      exact ⟨_, rfl, Kd.S_mono HO.out (fun _ _ => trivial), HB.out⟩
set_option maxHeartbeats 8000000 in
set_option maxRecDepth 100000 in
theorem order_Add.m2 (t : Int) (A0 : Option Addr) (c0 : Nat) (l0 : List S25) (a0 a1 a2 a3 : Int) (A4 : Option Addr) (c4 : Nat) (l4 : List S50) (w : World) (hr0 : Kd.C k25 w A0 l0.length l0) (hc0 : l0.length ≤ c0) (hr4 : Kd.C k50 w A4 l4.length l4) (hc4 : l4.length ≤ c4) (hat : order_at.f l0 a0 = some t) (ht : ¬ t ≥ 0) (hl : ¬ 2000 ≤ l0.length) (t2 : Int) (h2 : order_Add.ixF (fun x => decide (a0 < x.f0)) l0 0 = t2) (m : Nat) (hm : m ≤ l0.length) (hcase : t2 = (m : Int)) (ys : List S25) (hys : order_Add.ownAll (order_Add.mid l0 ⟨a0, a1, a2, a3, l4⟩ m) = some ys) : Calls Try.prog 9 #[.slice A0 l0.length c0, .agg #[.int .i64 a0, .int .i64 a1, .int .i64 a2, .int .i64 a3, .slice A4 l4.length c4]] w fun e w' => ∃ v0_ : Value, e = .returned (.tuple #[v0_, .int .i64 0]) ∧ Kd.S k25 25 w' w.heap.size (fun _ => True) v0_ ys ∧ Below w.heap.size w w' := by
  have HR0 := Aside0.mk hr0
  have HC0 := Aside0.mk hc0
  have HR4 := Aside0.mk hr4
  have HC4 := Aside0.mk hc4
  clear hr0 hc0 hr4 hc4
  have HAT := Aside0.mk hat
  have H2 := Aside0.mk h2
  have HL := Aside0.mk (show l0.length < 2000 by omega)
  have HM := Aside0.mk hm
  have ht1 : (t ≥ 0) = False := eq_false ht
  have ht2 : (0 ≤ t) = False := eq_false ht
  have hl1 : ((2000 : Int) ≤ (l0.length : Int)) = False := eq_false (by omega)
  have hl2 : ((l0.length : Int) ≥ 2000) = False := eq_false (by omega)
  subst hcase
  have hc1 : ((m : Int) < 0) = False := eq_false (by omega)
  obtain ⟨n1, hn1⟩ : ∃ n1, n1 = l0.length + 1 := ⟨_, rfl⟩
  have HN1 := Aside0.mk hn1
  have hw1 : wrap64 ((l0.length : Int) + 1) = (n1 : Int) := by unfold wrap64; omega
  have HW1 := Aside0.mk hw1
  clear hw1
  have HLm : l0.length ≤ maxLen := HR0.out.2.1
  have hs1 : ∀ w : World, (Instr.slice 22 (.slice A0 l0.length c0) none (some (.int .i64 (m : Int))) none).run Try.prog w = .ok (.slice A0 m c0) w := by
    intro w
    have hmc : (m : Int) ≤ (c0 : Int) := by have := HC0.out; omega
    have h := run_slice_h (P := Try.prog) w 22 A0 l0.length c0 Try.underlying22 .i64 (m : Int) (by omega) hmc
    rw [h, show (sizeOf (Try.prog.elem 22)).run Try.prog w = .ok 5 w from Try.sizeOf25 w]
    simp only [sliced, Int.toNat_natCast, Nat.sub_zero]
    simp [Try.sizeOf25, Result.andThen, order_Add.add0]
  obtain ⟨AD, hAD⟩ : ∃ AD, AD = (if c0 = m then A0 else A0.map (·.add (m * 5))) := ⟨_, rfl⟩
  have HAD := Aside0.mk hAD
  have hs2 : ∀ w : World, (Instr.slice 22 (.slice A0 l0.length c0) (some (.int .i64 (m : Int))) none none).run Try.prog w = .ok (.slice AD (l0.length - m) (c0 - m)) w := by
    intro w
    rw [hAD]
    have h := run_slice_l (P := Try.prog) w 22 A0 l0.length c0 Try.underlying22 .i64 (m : Int) (by omega) (by omega)
    rw [h, show (sizeOf (Try.prog.elem 22)).run Try.prog w = .ok 5 w from Try.sizeOf25 w]
    simp [Try.sizeOf25, Result.andThen, sliced]
  have HTK := Aside0.mk (show m = (l0.take m).length by rw [List.length_take]; omega)
  have HDR := Aside0.mk (show (l0.length - m) = (l0.drop m).length by rw [List.length_drop] <;> omega)
  have HTC := Aside0.mk (show (l0.take m).length ≤ c0 by rw [List.length_take]; have := HC0.out; omega)
  have HDC := Aside0.mk (show (l0.drop m).length ≤ c0 - m by rw [List.length_drop]; have := HC0.out; omega)
  obtain ⟨XL, hXL⟩ : ∃ XL, XL = order_Add.mid l0 ⟨a0, a1, a2, a3, l4⟩ m := ⟨_, rfl⟩
  have HFL := Aside0.mk (show [l0.take m, [⟨a0, a1, a2, a3, l4⟩], l0.drop m].flatten = XL by rw [hXL]; simp [order_Add.mid])
  have HXL := Aside0.mk (show XL.length = l0.length + 1 by rw [hXL]; simp [order_Add.mid] <;> omega)
  have HCC := Aside0.mk (show (if [l0.take m, [⟨a0, a1, a2, a3, l4⟩], l0.drop m].flatten.length < 2513169434916 then some [l0.take m, [⟨a0, a1, a2, a3, l4⟩], l0.drop m].flatten else none) = some [l0.take m, [⟨a0, a1, a2, a3, l4⟩], l0.drop m].flatten from if_pos (by rw [HFL.out, HXL.out]; have := HL.out; omega))
  have HF0 := Aside0.mk (Kd.C_F order_Add.heap HR0.out)
  have HF4 := Aside0.mk (Kd.C_F order_Add.heap50 HR4.out)
  have HCONT := Aside0.mk (show ∀ (b7 : Nat) (wd : World), Below w.heap.size w wd → b7 ≤ wd.heap.size → Calls Try.prog 25 #[.slice (some ⟨wd.heap.size + 1, 0, none⟩) 3 3] (((wd.alloc (.cells #[.int .i64 a0, .int .i64 a1, .int .i64 a2, .int .i64 a3, .slice A4 l4.length c4] 25)).alloc (.cells #[.slice A0 m c0, .slice (some ⟨wd.heap.size, 0, none⟩) 1 1, .slice AD (l0.length - m) (c0 - m)] 22)).drew) fun e w' => ∃ v0_ : Value, e = .returned v0_ ∧ Kd.N k25 25 w' (((wd.alloc (.cells #[.int .i64 a0, .int .i64 a1, .int .i64 a2, .int .i64 a3, .slice A4 l4.length c4] 25)).alloc (.cells #[.slice A0 m c0, .slice (some ⟨wd.heap.size, 0, none⟩) 1 1, .slice AD (l0.length - m) (c0 - m)] 22)).drew).heap.size (fun k => (k < w.heap.size ∨ b7 ≤ k) ∨ (((wd.alloc (.cells #[.int .i64 a0, .int .i64 a1, .int .i64 a2, .int .i64 a3, .slice A4 l4.length c4] 25)).alloc (.cells #[.slice A0 m c0, .slice (some ⟨wd.heap.size, 0, none⟩) 1 1, .slice AD (l0.length - m) (c0 - m)] 22)).drew).heap.size ≤ k) v0_ XL ∧ Below (((wd.alloc (.cells #[.int .i64 a0, .int .i64 a1, .int .i64 a2, .int .i64 a3, .slice A4 l4.length c4] 25)).alloc (.cells #[.slice A0 m c0, .slice (some ⟨wd.heap.size, 0, none⟩) 1 1, .slice AD (l0.length - m) (c0 - m)] 22)).drew).heap.size (((wd.alloc (.cells #[.int .i64 a0, .int .i64 a1, .int .i64 a2, .int .i64 a3, .slice A4 l4.length c4] 25)).alloc (.cells #[.slice A0 m c0, .slice (some ⟨wd.heap.size, 0, none⟩) 1 1, .slice AD (l0.length - m) (c0 - m)] 22)).drew) w' from by
    intro b7 wd hb h7
    rw [← HFL.out]
    have hbb : Below w.heap.size w (((wd.alloc (.cells #[.int .i64 a0, .int .i64 a1, .int .i64 a2, .int .i64 a3, .slice A4 l4.length c4] 25)).alloc (.cells #[.slice A0 m c0, .slice (some ⟨wd.heap.size, 0, none⟩) 1 1, .slice AD (l0.length - m) (c0 - m)] 22)).drew) := below_drew (below_alloc (below_alloc hb _) _)
    have hsz : wd.heap.size + 1 < (((wd.alloc (.cells #[.int .i64 a0, .int .i64 a1, .int .i64 a2, .int .i64 a3, .slice A4 l4.length c4] 25)).alloc (.cells #[.slice A0 m c0, .slice (some ⟨wd.heap.size, 0, none⟩) 1 1, .slice AD (l0.length - m) (c0 - m)] 22)).drew).heap.size := by simp [World.drew]
    refine order_Add.concat (some ⟨wd.heap.size + 1, 0, none⟩) 3 [l0.take m, [⟨a0, a1, a2, a3, l4⟩], l0.drop m] _ _ (fun k => k < w.heap.size ∨ b7 ≤ k) (fun W' hW => ?_) (Nat.le_refl _) HCC.out
    have hA := (Kd.F_below HF0.out hbb) W' (fun k hk hlt => hW k (.inl hk) hlt)
    have h4 := (Kd.F_below HF4.out hbb) W' (fun k hk hlt => hW k (.inl hk) hlt)
    have hg1 := (hW wd.heap.size (.inr h7) (by omega)).trans (show (((wd.alloc (.cells #[.int .i64 a0, .int .i64 a1, .int .i64 a2, .int .i64 a3, .slice A4 l4.length c4] 25)).alloc (.cells #[.slice A0 m c0, .slice (some ⟨wd.heap.size, 0, none⟩) 1 1, .slice AD (l0.length - m) (c0 - m)] 22)).drew).heap[wd.heap.size]? = _ from blk_alloc (blk_new wd _) _)
    have hg2 := (hW (wd.heap.size + 1) (.inr (by omega)) hsz).trans (show (((wd.alloc (.cells #[.int .i64 a0, .int .i64 a1, .int .i64 a2, .int .i64 a3, .slice A4 l4.length c4] 25)).alloc (.cells #[.slice A0 m c0, .slice (some ⟨wd.heap.size, 0, none⟩) 1 1, .slice AD (l0.length - m) (c0 - m)] 22)).drew).heap[wd.heap.size + 1]? = _ from order_Add.new2 wd _ _)
    exact order_Add.C3 HTK.out rfl HDR.out hg2 (Kd.C_take hA HM.out) HTC.out (order_Add.C1 (x := ⟨a0, a1, a2, a3, l4⟩) hg1 h4 HC4.out) (Nat.le_refl _) (by rw [HAD.out]; exact Kd.C_drop hA HM.out HC0.out) HDC.out)
  rw [← hXL] at hys
  have HYS := Aside0.mk hys
  clear hat ht h2 hl hm hXL hys HLm hn1 hAD
  go_enter Try.func9, Try.ntmps9
  go_wp2_with (first | ((with_reducible refine gate_dst (N := 3) rfl ?_); refine box_event ?hg (N := 3) ?hd (cs := #[.int .i64 a0, .int .i64 a1, .int .i64 a2, .int .i64 a3, .slice A4 l4.length c4]) (t := 25) ?hr ?_; (case hd => rfl); (case hg => rfl); (case hr => first | (go_simp; done) | (go_simp; rfl)); intro gb hg_ wv hbox hb; have BB := Aside0.mk hbox; have HB := Aside0.mk hb; have HGB := Aside0.mk (Nat.le_of_eq hg_.symm); clear hb hbox hg_; have hb0 : wv.cell? ⟨gb, 0, none⟩ = some (.int .i64 a0) := (blk_cell BB.out 0).trans rfl) | (go_at_call 22; with_reducible refine (order_at.calls _ _ l0 a0 t _ (Kd.C_below HR0.out HB.out) HC0.out HAT.out).mono ?_; rintro e wv ⟨rfl, hb⟩; clear hb0; replace BB := Aside0.mk (blk_below BB.out hb); replace HB := Aside0.mk (below_step HB.out hb); clear hb) | (go_at_call 23; with_reducible refine (order_Add.ixT a0 (.int .i64 a1) (.int .i64 a2) (.int .i64 a3) (.slice A4 l4.length c4) gb A0 c0 l0 _ (Kd.C_below HR0.out HB.out) HC0.out BB.out _ H2.out).mono ?_; rintro e wv ⟨rfl, hb⟩; replace BB := Aside0.mk (blk_below BB.out hb); replace HB := Aside0.mk (below_step HB.out hb); clear hb) | ((with_reducible refine gate_dst (N := 30) rfl ?_); refine order_Add.mk0 rfl 22 25 _ _ rfl n1 5 56 rfl (by first | exact congrArg (Value.int .i64) HW1.out | rfl) Try.underlying22 _ order_Add.inf rfl (by decide) (by have := HN1.out; have := HL.out; omega) ?_; intro v7 wv ho hb; obtain ⟨b7, hb7⟩ : ∃ b7, b7 = wv.heap.size := ⟨_, rfl⟩; have HS7 := Aside0.mk (Kd.S_mono (Kd.S_bound (order_Add.S_own ho (below_size HB.out))) (fun k hk => (⟨hk.2.1, by rw [hb7]; exact hk.2.2.1⟩ : w.heap.size ≤ k ∧ k < b7))); have HB7 := Aside0.mk (Nat.le_of_eq hb7); replace BB := Aside0.mk (blk_below BB.out hb); replace HB := Aside0.mk (below_step HB.out hb); clear ho hb hb7))
  refine start_ (n := 12) (S := fun w' => w'.heap[gb]? = some (.cells #[.int .i64 a0, .int .i64 a1, .int .i64 a2, .int .i64 a3, .slice A4 l4.length c4] 25 (0, 0))) (ds := []) #[false, false, false, false, false, false, false, false, false, false, false, false] (by kernel_rfl) rfl rfl (BB.out) (fun hHeld => ?_)
  refine pure_ (i := 0) (N := some 31) (v := ?_) (a' := ?_) #[true, false, false, false, false, false, false, false, false, false, false, false] rfl rfl (by kernel_rfl) (fun _ _ _ h => h) (Or.inl ⟨by rfl, ?_⟩) ?_ ?_
  rotate_left
  · intro w'
    go_simp
    with_reducible rfl
  rotate_left
  · simp only [Act.put, List.setIfInBounds_toArray, List.set_cons_zero, List.set_cons_succ, i64_w, i32_w]
    rfl
  refine pure_ (i := 1) (N := some 32) (v := ?_) (a' := ?_) #[true, true, false, false, false, false, false, false, false, false, false, false] rfl rfl (by kernel_rfl) (fun _ _ _ h => h) (Or.inl ⟨by rfl, ?_⟩) ?_ ?_
  rotate_left
  · intro w'
    go_simp
    with_reducible rfl
  rotate_left
  · simp only [Act.put, List.setIfInBounds_toArray, List.set_cons_zero, List.set_cons_succ, i64_w, i32_w]
    rfl
  refine pure_ (i := 2) (N := some 33) (v := ?_) (a' := ?_) #[true, true, true, false, false, false, false, false, false, false, false, false] rfl rfl (by kernel_rfl) (fun _ _ _ h => h) (Or.inl ⟨by rfl, ?_⟩) ?_ ?_
  rotate_left
  · intro w'
    go_simp
    with_reducible rfl
  rotate_left
  · simp only [Act.put, List.setIfInBounds_toArray, List.set_cons_zero, List.set_cons_succ, i64_w, i32_w]
    rfl
  refine pure_ (i := 5) (N := some 36) (v := ?_) (a' := ?_) #[true, true, true, false, false, true, false, false, false, false, false, false] rfl rfl (by kernel_rfl) (fun _ _ _ h => h) (Or.inl ⟨by rfl, ?_⟩) ?_ ?_
  rotate_left
  · intro w'
    go_simp
    with_reducible rfl
  rotate_left
  · simp only [Act.put, List.setIfInBounds_toArray, List.set_cons_zero, List.set_cons_succ, i64_w, i32_w]
    rfl
  refine pure_ (i := 6) (N := some 37) (v := ?_) (a' := ?_) #[true, true, true, false, false, true, true, false, false, false, false, false] rfl rfl (by kernel_rfl) (fun _ _ _ h => h) (Or.inl ⟨by rfl, ?_⟩) ?_ ?_
  rotate_left
  · intro w'
    go_simp
    with_reducible rfl
  rotate_left
  · simp only [Act.put, List.setIfInBounds_toArray, List.set_cons_zero, List.set_cons_succ, i64_w, i32_w]
    rfl
  refine pure_ (i := 7) (N := some 38) (v := ?_) (a' := ?_) #[true, true, true, false, false, true, true, true, false, false, false, false] rfl rfl (by kernel_rfl) (fun _ _ _ h => h) (Or.inl ⟨by rfl, ?_⟩) ?_ ?_
  rotate_left
  · intro w'
    go_simp
    with_reducible rfl
  rotate_left
  · simp only [Act.put, List.setIfInBounds_toArray, List.set_cons_zero, List.set_cons_succ, i64_w, i32_w]
    rfl
  refine pure_ (i := 11) (N := some 42) (v := ?_) (a' := ?_) #[true, true, true, false, false, true, true, true, false, false, false, true] rfl rfl (by kernel_rfl) (fun _ _ _ h => h) (Or.inl ⟨by rfl, ?_⟩) ?_ ?_
  rotate_left
  · intro w'
    go_simp
    with_reducible rfl
  rotate_left
  · simp only [Act.put, List.setIfInBounds_toArray, List.set_cons_zero, List.set_cons_succ, i64_w, i32_w]
    rfl
  refine take_ (i := 3) (N := some 34) (v := ?_) (a' := ?_) #[true, true, true, true, false, true, true, true, false, false, false, true] rfl rfl (by kernel_rfl) (fun _ _ _ h => h) (Or.inl ⟨by rfl, ?_⟩) hHeld ?_ ?_
  rotate_left
  · intro w' s0
    refine order_Add.loadrow 25 (.tmp 3) ?_ gb ?_ 25 #[.int .i64 a0, .int .i64 a1, .int .i64 a2, .int .i64 a3, .slice A4 l4.length c4] (0, 0) _ s0 Try.underlying25 rfl (by kernel_rfl)
    · rfl
    · rfl
  rotate_left
  · simp only [Act.put, List.setIfInBounds_toArray, List.set_cons_zero, List.set_cons_succ, i64_w, i32_w]
    rfl
  refine one_ (i := 4) (N := some 35) #[true, true, true, true, true, true, true, true, false, false, false, true] rfl rfl (by kernel_rfl) (by decide) (fun K hK => ?_)
  refine value_ (w1 := ?_) (v := ?_) (by rfl) rfl ?_ ?_
  rotate_left 2
  · go_simp
    constructor
    · rfl
    · rfl
  refine hK.out _ _ (blk_alloc BB.out _) (fun hHeld => ?_)
  clear hK K
  refine norm_ (a' := ?_) ?_ ?_
  rotate_left
  · show Act.put _ (some 35) _ = _
    simp only [Act.put, List.setIfInBounds_toArray, List.set_cons_zero, List.set_cons_succ, i64_w, i32_w]
    rfl
  refine one_ (i := 8) (N := some 39) #[true, true, true, true, true, true, true, true, true, false, false, true] rfl rfl (by kernel_rfl) (by decide) (fun K hK => ?_)
  refine value_ (w1 := ?_) (v := ?_) (by rfl) rfl ?_ ?_
  rotate_left 2
  · go_simp
    constructor
    · rfl
    · rfl
  refine hK.out _ _ (blk_alloc (blk_alloc BB.out _) _) (fun hHeld => ?_)
  clear hK K
  refine norm_ (a' := ?_) ?_ ?_
  rotate_left
  · show Act.put _ (some 39) _ = _
    simp only [Act.put, List.setIfInBounds_toArray, List.set_cons_zero, List.set_cons_succ, i64_w, i32_w]
    rfl
  refine one_ (i := 9) (N := some 40) #[true, true, true, true, true, true, true, true, true, true, false, true] rfl rfl (by kernel_rfl) (by decide) (fun K hK => ?_)
  refine goes_ Try.func25 (by kernel_rfl) rfl #[.slice (some ⟨wv.heap.size + 1, 0, none⟩) 3 3] (by rfl) rfl rfl (by first | rfl | (simp only [List.map_toArray, List.map_cons, List.map_nil]; rfl)) ?_
  with_reducible refine (HCONT.out b7 _ HB.out HB7.out).mono ?_
  rintro e wv ⟨vc, rfl, hN, hb⟩
  replace BB := Aside0.mk (blk_below (blk_drew (blk_alloc (blk_alloc BB.out _) _)) hb)
  replace HB := Aside0.mk (below_step (below_drew (below_alloc (below_alloc HB.out _) _)) hb)
  replace HS7 := Aside0.mk (Kd.S_below (Kd.S_drew (Kd.S_alloc (Kd.S_alloc HS7.out _) _)) hb)
  have HWB := Aside0.mk hb
  obtain ⟨Ac, cc, hv⟩ := Kd.N_slice hN
  subst hv
  obtain ⟨bw, hbw⟩ : ∃ bw, bw = wv.heap.size := ⟨_, rfl⟩
  have HX := Aside0.mk (Kd.F_mono (ok' := fun k => k < w.heap.size ∨ (b7 ≤ k ∧ k < bw)) (Kd.F_bound (Kd.N_F hN)) (fun k hk => order_Add.okc (Nat.le_trans HB7.out (below_size (below_drew (below_alloc (below_alloc (Below.refl _ _) _) _)))) (Nat.le_of_eq hbw.symm) hk))
  have HBW := Aside0.mk (Nat.le_of_eq hbw)
  have HSB := Aside0.mk (show w.heap.size ≤ bw by rw [hbw]; exact below_size HB.out)
  clear hN hb hbw
  refine ⟨_, rfl, ?_⟩
  refine hK.out _ _ (BB.out) (fun hHeld => ?_)
  clear hK K
  refine norm_ (a' := ?_) ?_ ?_
  rotate_left
  · show Act.put _ (some 40) _ = _
    simp only [Act.put, List.setIfInBounds_toArray, List.set_cons_zero, List.set_cons_succ, i64_w, i32_w]
    rfl
  refine pure_ (i := 10) (N := some 41) (v := ?_) (a' := ?_) #[true, true, true, true, true, true, true, true, true, true, true, true] rfl rfl (by kernel_rfl) (fun _ _ _ h => h) (Or.inl ⟨by rfl, ?_⟩) ?_ ?_
  rotate_left
  · intro w'
    go_simp
    with_reducible rfl
  rotate_left
  · simp only [Act.put, List.setIfInBounds_toArray, List.set_cons_zero, List.set_cons_succ, i64_w, i32_w]
    rfl
  refine done_ (by kernel_rfl) ?_

  replace HS7 := Aside0.mk (Kd.S_mono HS7.out (fun k hk => (.inl hk : ((w.heap.size ≤ k ∧ k < b7) ∨ bw ≤ k))))
  clear HCONT HF0 HF4 BB HWB hHeld
  go_wp2
  go_loopg [7, 42] XL.length (fun kq v7 v42 w' => ∃ (j : Nat) (xs zs : List S25), v42 = .int .i64 (j : Int) ∧ Aside0 (j ≤ XL.length) ∧ Aside0 (XL.length - j ≤ kq) ∧ Aside0 (order_Add.ownAll (XL.drop j) = some zs ∧ xs ++ zs = ys) ∧ Aside0 (xs.length = j) ∧ Aside0 (Kd.S k25 25 w' w.heap.size (fun k => (w.heap.size ≤ k ∧ k < b7) ∨ bw ≤ k) v7 xs) ∧ Aside0 (Kd.F k25 w' (fun k => k < w.heap.size ∨ (b7 ≤ k ∧ k < bw)) Ac XL.length XL) ∧ Aside0 (bw ≤ w'.heap.size) ∧ Aside0 (Below w.heap.size w w'))
  case atStart => exact ⟨0, [], ys, rfl, ⟨by omega⟩, ⟨by omega⟩, ⟨HYS.out, rfl⟩, ⟨rfl⟩, HS7, HX, HBW, HB⟩
  case round =>
    clear HB HX HBW HS7
    obtain ⟨j, xs, zs, rfl, HJ, HG, HZ, HXS, HO, HX, HBW, HB⟩ := hrel
    by_cases c1 : (j : Int) < (XL.length : Int)
    · have p1 : 0 ≤ (j : Int) := by omega
      have HJN := Aside0.mk (show j < XL.length by omega)
      have hd : XL.drop j = rd_T25 XL (j : Int) :: XL.drop (j + 1) := by
        rw [List.drop_eq_getElem_cons HJN.out]
        simp [rd_T25, HJN.out]
      have hz := HZ.out.1
      have hz2 := HZ.out.2
      rw [hd] at hz
      obtain ⟨ad, A5, c5, e1, hx0, hx1, hx2, hx3, hx4, hl5, hg5⟩ := at_T25 (Kd.F_now HX.out) (j : Int) p1 c1
      cases e1
      rw [Int.toNat_natCast] at hx0 hx1 hx2 hx3 hx4
      have HI := Aside0.mk (Kd.C_F order_Add.heap50 hg5)
      have HC5 := Aside0.mk hl5
      have hw2 : wrap64 ((j : Int) + 1) = ((j + 1 : Nat) : Int) := by
        have := HXL.out
        have := HL.out
        unfold wrap64
        omega
      have HW2 := Aside0.mk hw2
      generalize rd_T25 XL (j : Int) = x at *
      simp only [order_Add.ownAll, Option.bind_eq_some_iff] at hz
      obtain ⟨r, hr, u, hu, hz⟩ := hz
      have e1 := order_Add.own_len _ _ _ _ _ _ hr
      subst e1
      have HOWN := Aside0.mk hr
      have HU := Aside0.mk hu
      have HZS := Aside0.mk (show (xs ++ [(⟨x.f0, x.f1, x.f2, x.f3, x.f4⟩ : S25)]) ++ u = ys by rw [← hz2, ← Option.some.inj hz]; simp)
      clear hz hz2 hd hr hu HZ hg5 hl5
      replace p1 := eq_true p1
      replace c1 := eq_true c1
      go_wp2_with (first | ((with_reducible refine gate_dst (N := 9) rfl ?_); refine box_event ?hg (N := 9) ?hd (cs := #[.int .i64 0, .int .i64 0, .int .i64 0, .int .i64 0, .slice none 0 0]) (t := 25) ?hr ?_; (case hd => rfl); (case hg => rfl); (case hr => first | (go_simp; done) | (go_simp; rfl)); intro gx hg_ w2 hbox hb; have HGX := Aside0.mk (show bw ≤ gx by rw [hg_]; exact HBW.out); have SX := Aside0.mk (show w.heap.size ≤ gx by rw [hg_]; exact below_size HB.out); replace HO := Aside0.mk (Kd.S_mono (Kd.S_old HO.out hb) (fun k hk => (⟨hk.1, by rw [hg_]; exact hk.2⟩ : ((w.heap.size ≤ k ∧ k < b7) ∨ bw ≤ k) ∧ k < gx))); replace HI := Aside0.mk (Kd.F_mono (ok' := fun k => k < gx) (Kd.F_below HI.out hb) (fun k hk => by rw [hg_]; exact hk)); replace HX := Aside0.mk (Kd.F_below HX.out hb); have HBX := Aside0.mk hbox; replace HB := Aside0.mk (below_step HB.out hb); clear hb hbox hg_ hx0 hx1 hx2 hx3 hx4) | ((with_reducible refine gate_store (t := 25) (p := 9) rfl ?_); refine wpList_store_row rfl 25 _ _ rfl gx #[.int .i64 x.f0, .int .i64 x.f1, .int .i64 x.f2, .int .i64 x.f3, .slice A5 x.f4.length c5] rfl rfl 25 #[.int .i64 0, .int .i64 0, .int .i64 0, .int .i64 0, .slice none 0 0] HBX.out (by kernel_rfl) rfl (by first | kernel_rfl | (simp [Value.oneCell']; done) | decide) ?_; obtain ⟨wn, hw⟩ : ∃ wn, wn = w2.setRow gx #[.int .i64 x.f0, .int .i64 x.f1, .int .i64 x.f2, .int .i64 x.f3, .slice A5 x.f4.length c5] := ⟨_, rfl⟩; rw [← hw]; have hst : ∀ k, k ≠ gx → wn.heap[k]? = w2.heap[k]? := (fun k hk => by rw [hw]; exact setRow_other _ _ _ _ hk); replace HO := Aside0.mk (Kd.S_step HO.out (fun k hk _ => hst k (Nat.ne_of_lt hk.2))); replace HI := Aside0.mk (Kd.F_step HI.out (fun k hk _ => hst k (Nat.ne_of_lt hk))); replace HX := Aside0.mk (Kd.F_step HX.out (fun k hk _ => hst k (by have := HGX.out; have := SX.out; omega))); replace HBX := Aside0.mk (show wn.heap[gx]? = some (.cells #[.int .i64 x.f0, .int .i64 x.f1, .int .i64 x.f2, .int .i64 x.f3, .slice A5 x.f4.length c5] 25 (0, 0)) by rw [hw]; exact setRow_heap _ _ _ _ _ _ HBX.out); replace HB := Aside0.mk (show Below w.heap.size w wn by rw [hw]; exact below_setRow HB.out SX.out _); clear hw hst) | ((with_reducible refine gate_dst (N := 47) rfl ?_); refine wpList_load_row rfl 25 (.tmp 9) rfl gx rfl 25 #[.int .i64 x.f0, .int .i64 x.f1, .int .i64 x.f2, .int .i64 x.f3, .slice A5 x.f4.length c5] (0, 0) _ HBX.out Try.underlying25 rfl (by kernel_rfl) ?_) | (go_at_call 26; with_reducible refine (order_own.calls x.f0 x.f1 x.f2 x.f3 A5 c5 x.f4 x.f0 x.f1 x.f2 x.f3 x.f4 _ (Kd.F_now HI.out) HC5.out HOWN.out).mono ?_; rintro e w3 ⟨vq, rfl, hR, hb⟩; obtain ⟨Aq, cq, eq_⟩ := Kd.R_slice hR; subst eq_; have hgx := blk_lt HBX.out; have HQ := Aside0.mk (Kd.R_lower (Kd.R_mono (ok' := fun k => gx < k) (Kd.R_bound hR) (fun k hk => Nat.lt_of_lt_of_le hgx hk.2.1)) (below_size HB.out)); replace HBX := Aside0.mk (blk_below HBX.out hb); replace HO := Aside0.mk (Kd.S_below HO.out hb); replace HX := Aside0.mk (Kd.F_below HX.out hb); replace HB := Aside0.mk (below_step HB.out hb); clear hR hb hgx HI) | (at_builtin; refine Kd.S_append k25 (w0 := w) w.heap.size rfl _ _ 22 25 (.agg #[.int .i64 0, .int .i64 0, .int .i64 0, .int .i64 0, .slice none 0 0]) 56 rfl Try.underlying22 order_Add.inf rfl (by decide) (by decide) _ xs (⟨x.f0, x.f1, x.f2, x.f3, x.f4⟩ : S25) [.int .i64 x.f0, .int .i64 x.f1, .int .i64 x.f2, .int .i64 x.f3, .slice Aq x.f4.length cq] (fun k => (w.heap.size ≤ k ∧ k < b7) ∨ bw ≤ k) (fun k => gx < k) rfl rfl (k25_mkM _ _ _ (⟨x.f0, x.f1, x.f2, x.f3, x.f4⟩ : S25) HQ.out) (fun k hk => ⟨.inr (by have := HGX.out; omega), fun e => by have := ((Kd.S_R HO.out).1 k e.symm).2; omega⟩) (fun k hk => .inr (by have := blk_lt HBX.out; have := HGX.out; omega)) (Kd.S_mono HO.out (fun k hk => ⟨hk.1, by have := hk.2; omega⟩)) HB.out (below_size HB.out) (by have := HXS.out; have := HJN.out; have := HXL.out; have := HL.out; omega) ?_; intro v1 w4 ho hb hg _; replace HX := Aside0.mk (Kd.F_grown HX.out hg (fun k hk e => by have := ((Kd.S_R HO.out).1 k e.symm).1; have := HSB.out; omega)); replace HBW := Aside0.mk (show bw ≤ w4.heap.size by have := blk_lt HBX.out; have := HGX.out; have := hg.size; omega); replace HO := Aside0.mk ho; replace HB := Aside0.mk hb; clear ho hb hg HBX HQ))
      go_roundg (XL.length - (j + 1))
      case measure => have := HJN.out; have := HG.out; omega
      case rel => exact ⟨j + 1, _, u, by first | rfl | rw [HW2.out], ⟨by have := HJN.out; omega⟩, ⟨by omega⟩, ⟨HU.out, HZS.out⟩, ⟨by rw [List.length_append]; have := HXS.out; simp; omega⟩, HO, HX, HBW, HB⟩
    · obtain rfl : j = XL.length := by have := HJ.out; omega
      replace c1 := eq_false c1
      have hz := HZ.out.1
      rw [List.drop_length, order_Add.ownAll] at hz
      have hy := HZ.out.2
      rw [← Option.some.inj hz, List.append_nil] at hy
      subst hy
      clear HZ hz HYS
      go_wp2
      repeat (go_quiet (fail); try go_wp2)
      first | go_ret | go_ret2
      exact ⟨_, rfl, Kd.S_mono HO.out (fun _ _ => trivial), HB.out⟩
theorem order_Add.calls (A0 : Option Addr) (c0 : Nat) (l0 : List S25) (a1_0 : Int) (a1_1 : Int) (a1_2 : Int) (a1_3 : Int) (A1_4 : Option Addr) (c1_4 : Nat) (l1_4 : List S50) (r1 : List S25) (r2 : Int) (w : World) (hr0 : Kd.C k25 w A0 l0.length l0) (hc0 : l0.length ≤ c0) (hr1_4 : Kd.C k50 w A1_4 l1_4.length l1_4) (hc1_4 : l1_4.length ≤ c1_4) (h : order_Add.f l0 a1_0 a1_1 a1_2 a1_3 l1_4 = some (r1, r2)) :
    Calls Try.prog 9 #[.slice A0 l0.length c0, .agg #[.int .i64 a1_0, .int .i64 a1_1, .int .i64 a1_2, .int .i64 a1_3, .slice A1_4 l1_4.length c1_4]] w fun e w' => ∃ v0_ : Value, e = .returned (.tuple #[v0_, .int .i64 r2]) ∧ Kd.S k25 25 w' w.heap.size (fun _ => True) v0_ r1 ∧ Below w.heap.size w w' := by
  unfold order_Add.f at h
  obtain ⟨t, hat, h⟩ := Option.bind_eq_some_iff.mp h
  by_cases ht : t ≥ 0
  · rw [if_pos ht] at h
    simp only [Option.some.injEq, Prod.mk.injEq] at h
    obtain ⟨rfl, rfl⟩ := h
    exact order_Add.e1 t A0 c0 l0 a1_0 a1_1 a1_2 a1_3 A1_4 c1_4 l1_4 w hr0 hc0 hr1_4 hc1_4 hat ht
  rw [if_neg ht] at h
  by_cases hl : 2000 ≤ l0.length
  · rw [if_pos hl] at h
    simp only [Option.some.injEq, Prod.mk.injEq] at h
    obtain ⟨rfl, rfl⟩ := h
    exact order_Add.e2 t A0 c0 l0 a1_0 a1_1 a1_2 a1_3 A1_4 c1_4 l1_4 w hr0 hc0 hr1_4 hc1_4 hat ht hl
  rw [if_neg hl] at h
  obtain ⟨ys, hys, h⟩ := Option.bind_eq_some_iff.mp h
  simp only [Option.some.injEq, Prod.mk.injEq] at h
  obtain ⟨rfl, rfl⟩ := h
  have hb := order_Add.ixF_bound (fun x => decide (a1_0 < x.f0)) l0 0
  by_cases hn : order_Add.ixF (fun x => decide (a1_0 < x.f0)) l0 0 < 0
  · rw [if_pos hn] at hys
    exact order_Add.m1 t A0 c0 l0 a1_0 a1_1 a1_2 a1_3 A1_4 c1_4 l1_4 w hr0 hc0 hr1_4 hc1_4 hat ht hl _ rfl l0.length (Nat.le_refl _) ⟨hn, rfl⟩ ys hys
  · rw [if_neg hn] at hys
    exact order_Add.m2 t A0 c0 l0 a1_0 a1_1 a1_2 a1_3 A1_4 c1_4 l1_4 w hr0 hc0 hr1_4 hc1_4 hat ht hl _ rfl _ (by omega) (by omega) ys hys

end Go.Proofs.Ytkedaiamhcgdkaa.MOrderChecks
