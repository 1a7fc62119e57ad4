/- Heap.Drain and New. -/
import Derived.Test.YtojaflnejkbjnaaHp8
import Derived.Test.YtojaflnejkbjnaaHp9
namespace Go.Proofs.Ytojaflnejkbjnaa.Hp10
open Go.RowKit Go.Proofs.YtojaflnejkbjnaaW.PrintWords Go.Proofs.YtojaflnejkbjnaaW.PrintLast Go.Proofs.YtojaflnejkbjnaaW.PrintMore Go.Proofs.Ytojaflnejkbjnaa.Hp1 Go.Proofs.Ytojaflnejkbjnaa.Hp2 Go.Proofs.Ytojaflnejkbjnaa.Hp3 Go.Proofs.Ytojaflnejkbjnaa.Hp4 Go.Proofs.Ytojaflnejkbjnaa.Hp5 Go.Proofs.Ytojaflnejkbjnaa.Hp6 Go.Proofs.Ytojaflnejkbjnaa.Hp7 Go.Proofs.Ytojaflnejkbjnaa.Hp8 Go.Proofs.Ytojaflnejkbjnaa.Hp9
attribute [local go_sem] max2_int min2_int max_two min_two max_three min_three max_four min_four
set_option linter.unusedVariables false
set_option linter.unusedSimpArgs false
theorem IsH.grown {w w1 : World} {base b : Nat} {v : Value} {xs : List It} {row : Option Nat} (h : IsH w base b v xs) (hg : w.grownBy w1 row) (h1 : some b ≠ row) (h2 : ∀ k, some k = v.ownBlock → some k ≠ row) : IsH w1 base b v xs :=
  ⟨h.1, (hg.block b (Hp7.IsH.lt h) h1).trans h.2.1, Kd.R_step h.2.2 (fun k hk hlt => hg.block k hlt (h2 k hk))⟩
theorem HK.grown {w w1 w2 : World} {b : Nat} {v : Value} {row : Option Nat} (h : HK w w1 b v) (hg : w1.grownBy w2 row) (hr : ∀ k, row = some k → w.heap.size ≤ k) : HK w w2 b v :=
  ⟨hg.os.trans h.os, hg.tape.trans h.tape, hg.output.trans h.output, Nat.le_trans h.size hg.size, fun i hi hb hn => (hg.block i (Nat.lt_of_lt_of_le hi h.size) (fun e => by have := hr i e.symm; omega)).trans (h.block i hi hb hn)⟩
theorem app3G {ops : Array Oper} {rest : List Oper} {o : Oper} {a : Act} {Q : Exit → Act → World → Prop} {W : World} (base : Nat) (hgd : o.guard = none) (s x : Operand) (ho : o.op = .call { callee := .builtin .append, args := #[s, x], argTypes := #[26, 26] }) (v : Value) (xs : List It) (p0 p1 p2 : Int) (ok : Nat → Prop) (hs : a.eval s = v) (hx : a.eval x = .slice (some ⟨W.heap.size, 0, none⟩) 1 1)
    (HO : Kd.R kdi 33 W base ok v xs) (hfr : ∀ k, W.heap.size ≤ k → ok k) (hbase : base ≤ W.heap.size) (hl : xs.length ≤ 1000000)
    (h : ∀ v1 w1, Kd.R kdi 33 w1 base ok v1 (xs ++ [(p0, p1, p2)]) → W.grownBy w1 v.ownBlock → At W v v1 → wpList Try.prog ops Q rest (a.put o.dst v1) w1) :
    wpList Try.prog ops Q (o :: rest) a (W.alloc (.cells #[.int .i64 p0, .int .i64 p1, .int .i64 p2] 33)) :=
  Kd.R_append kdi (w0 := W) base hgd s x 26 33 (.agg #[(.int .i64 0), (.int .i64 0), (.int .i64 0)]) 24 ho und26 inf33 rfl (by decide) (by omega) v xs (p0, p1, p2) (i3 (p0, p1, p2)) ok (fun _ => False) hs hx (kdi_mk _ _ _ _) (fun _ hk => hk.elim) hfr HO (Below.mk rfl rfl rfl (Nat.le_refl _) (fun _ _ => rfl)) hbase (by omega) (fun v1 w1 h1 _ h3 h4 => h v1 w1 h1 h3 h4)
set_option maxHeartbeats 8000000 in
set_option maxRecDepth 100000 in
theorem new_ (A : Option Addr) (c : Nat) (xs : List It) (hl : xs.length ≤ 1000000) (w : World) (hr : Kd.C kdi w A xs.length xs) : Calls Try.prog 7 #[.slice A xs.length c] w fun e w' => ∃ b v, e = .returned (.pointer (some ⟨b, 0, none⟩)) ∧ IsH w' w.heap.size b v (iniL xs.length (xs.length / 2) xs) ∧ Below w.heap.size w w' := by
  have HC := Aside0.mk hr
  have HL := Aside0.mk hl
  have HB := Aside0.mk (Below.refl w.heap.size w)
  clear hr hl
  go_enter Try.func7, Try.ntmps7
  go_wp2_with (first | (go_at_call 17; (with_reducible refine (clone3 A c xs _ HC.out HL.out).mono ?_); rintro e wv ⟨v, rfl, ho, hb⟩; obtain ⟨A1, c1, e1⟩ := Kd.R_slice ho; subst e1; have HO := Aside0.mk ho; replace HB := Aside0.mk hb; clear ho hb) | ((with_reducible refine gate_dst (N := 8) rfl ?_); refine box_event ?hg (N := 8) ?hd (cs := #[.slice A1 xs.length c1]) (t := 49) ?hr ?_; (case hd => rfl); (case hg => rfl); (case hr => first | (go_simp; done) | (go_simp; rfl)); intro b hg_ wv hbox hb; have HH := Aside0.mk (show IsH wv w.heap.size b (.slice A1 xs.length c1) xs from ⟨by rw [hg_]; exact below_size HB.out, hbox, Kd.R_below (Kd.R_tight rfl HO.out) hb⟩); replace HB := Aside0.mk (below_step HB.out hb); clear HO; clear hbox hg_ hb) | (go_at_call 18; (with_reducible refine (init_ w.heap.size b A1 c1 xs (by have := HL.out; omega) _ HH.out).mono ?_); rintro e wv ⟨rfl, hi, hk⟩; replace HB := Aside0.mk (Goes.base HB.out HH.out ⟨_, hi, hk, At.refl _ _⟩ (Nat.le_refl _)); replace HH := Aside0.mk hi; clear hi hk))
  first | go_ret | go_ret2
  exact ⟨_, _, rfl, HH.out, HB.out⟩
set_option maxHeartbeats 8000000 in
set_option maxRecDepth 100000 in
theorem drain_n (w : World) : Calls Try.prog 10 #[.pointer none, .int .i64 3] w fun e w' => e = .returned (.slice none 0 0) ∧ Below w.heap.size w w' := by
  have HB := Aside0.mk (Below.refl w.heap.size w)
  go_enter Try.func10, Try.ntmps10
  (try go_wp2)
  go_loopg [5] 1 (fun kq v5 w' => v5 = .slice none 0 0 ∧ Aside0 (Below w.heap.size w w'))
  case atStart => exact ⟨rfl, HB⟩
  case round =>
    clear HB
    obtain ⟨rfl, HB⟩ := hrel
    go_wp2_with (first | (go_at_call 14; (with_reducible refine (hpop_n _).mono ?_); rintro e wv ⟨rfl, hb⟩; replace HB := Aside0.mk (below_step HB.out hb); clear hb) | ((with_reducible refine gate_dst (N := 6) rfl ?_); refine box_event ?hg (N := 6) ?hd (cs := #[.int .i64 0, .int .i64 0, .int .i64 0]) (t := 33) ?hr ?_; (case hd => rfl); (case hg => rfl); (case hr => first | (go_simp; done) | (go_simp; rfl)); intro g6 hg_ wv hbox hb; have HG6 := Aside0.mk (Nat.le_trans (below_size HB.out) (Nat.le_of_eq hg_.symm)); have BK := Aside0.mk hbox; replace HB := Aside0.mk (below_step HB.out hb); clear hbox hg_ hb) | ((with_reducible refine gate_store (t := 33) (p := 6) rfl ?_); refine wpList_store_row rfl 33 _ _ rfl g6 #[.int .i64 0, .int .i64 0, .int .i64 0] rfl rfl 33 #[.int .i64 0, .int .i64 0, .int .i64 0] BK.out (by kernel_rfl) rfl (by simp [Value.oneCell']) ?_; replace HB := Aside0.mk (below_setRow HB.out HG6.out #[.int .i64 0, .int .i64 0, .int .i64 0]); clear BK; generalize wv.setRow g6 #[.int .i64 0, .int .i64 0, .int .i64 0] = wv at HB ⊢))
    first | go_ret | go_ret2
    exact ⟨rfl, HB.out⟩
theorem out_step {w wv wn : World} {b : Nat} {v' v1 vo : Value} {out : List It} (hb : b < w.heap.size) (h : Kd.R kdi 33 wv w.heap.size (fun k => some k ≠ v'.ownBlock) vo out) (hk : HK wv wn b v') (ha : At wv v' v1) : Kd.R kdi 33 wn w.heap.size (fun k => some k ≠ v1.ownBlock) vo out := by
  have h2 : Kd.R kdi 33 wv w.heap.size (fun k => some k ≠ v'.ownBlock ∧ w.heap.size ≤ k ∧ k < wv.heap.size) vo out := Kd.R_mono (Kd.R_bound h) (fun k hk => ⟨hk.1, hk.2.1, hk.2.2.1⟩)
  refine Kd.R_mono (Kd.R_step h2 (fun k hk1 hlt => hk.block k hlt (by omega) hk1.1)) (fun k hk1 e => ?_)
  rcases ha with e2 | ⟨q, e2, hq⟩
  · exact hk1.1 (e.trans e2)
  · rw [e2] at e
    injection e with e
    omega
theorem out_box {w wv w1 : World} {v' vo : Value} {out : List It} {g : Nat} (h : Kd.R kdi 33 wv w.heap.size (fun k => some k ≠ v'.ownBlock) vo out) (hg : wv.heap.size ≤ g) (hb : Below wv.heap.size wv w1) : Kd.R kdi 33 w1 w.heap.size (fun k => some k ≠ v'.ownBlock ∧ k ≠ g) vo out :=
  Kd.R_below (Kd.R_mono (Kd.R_bound h) (fun k hk => ⟨hk.1, by have := hk.2.2.1; omega⟩)) hb
set_option maxHeartbeats 8000000 in
set_option maxRecDepth 100000 in
theorem drain_ (base b : Nat) (v : Value) (xs : List It) (most : Int) (m : Nat) (r1 r2 : List It) (hl : xs.length ≤ 1000000) (hm : m = min most.toNat xs.length) (hr : drainL m xs = (r1, r2)) (w : World) (h : IsH w base b v xs) : Calls Try.prog 10 #[.pointer (some ⟨b, 0, none⟩), .int .i64 most] w fun e w' => ∃ vo, e = .returned vo ∧ Kd.R kdi 33 w' w.heap.size (fun _ => True) vo r1 ∧ Goes w w' base b v r2 := by
  have HL := Aside0.mk hl
  have HM := Aside0.mk hm
  have HR := Aside0.mk hr
  have HBB := Aside0.mk (Hp7.IsH.lt h)
  have HH := Aside0.mk h
  have HG := Aside0.mk (HK.refl w b v)
  have HT := Aside0.mk (At.refl w v)
  clear h hl hm hr
  go_enter Try.func10, Try.ntmps10
  (try go_wp2)
  go_loopg [5] xs.length (fun kq v5 w' => ∃ (i : Nat) (ys out : List It) (v' : Value), Aside0 (i ≤ m) ∧ Aside0 (out.length = i ∧ ys.length + i = xs.length) ∧ Aside0 (ys.length ≤ kq) ∧ Aside0 ((drainL (m - i) ys).2 = r2 ∧ out ++ (drainL (m - i) ys).1 = r1) ∧ Aside0 (Kd.R kdi 33 w' w.heap.size (fun k => some k ≠ v'.ownBlock) v5 out) ∧ Aside0 (IsH w' base b v' ys) ∧ Aside0 (HK w w' b v) ∧ Aside0 (At w v v'))
  case atStart => exact ⟨0, xs, [], v, ⟨Nat.zero_le _⟩, ⟨by simp⟩, ⟨Nat.le_refl _⟩, ⟨by rw [Nat.sub_zero, HR.out]; exact ⟨rfl, rfl⟩⟩, ⟨Kd.R_nil _ _ _ _ _⟩, HH, HG, HT⟩
  case round =>
    clear HH HG HT
    obtain ⟨i, ys, out, v', HI, HN, HK1, HQ, HO, HH, HG, HT⟩ := hrel
    obtain ⟨A5, c5, e5⟩ := Kd.R_slice HO.out
    subst e5
    by_cases ci : i < m
    · have h0 : 0 < ys.length := by have := HN.out; have := HM.out; omega
      obtain ⟨⟨p0, p1, p2⟩, hp⟩ : ∃ p, ri ys 0 = p := ⟨_, rfl⟩
      have HP := Aside0.mk (show 0 < ys.length ∧ ri ys 0 = (p0, p1, p2) from ⟨h0, hp⟩)
      have c1 : ((out.length : Int) < most) = True := eq_true (by have := HN.out; have := HM.out; omega)
      have HTO := Aside0.mk HT.out
      have CI := Aside0.mk ci
      clear h0 hp ci
      go_wp2_with (first | (go_at_call 14; (with_reducible refine (hpop_y base b v' ys p0 p1 p2 HP.out.1 HP.out.2 (by have := HN.out; have := HL.out; omega) _ HH.out).mono ?_); rintro e wv ⟨rfl, hg⟩; obtain ⟨v1, hi, hk, ha⟩ := hg; replace HO := Aside0.mk (Hp10.out_step HBB.out HO.out hk ha); replace HT := Aside0.mk (At.trans HG.out HT.out ha); replace HG := Aside0.mk (HG.out.trans hk HTO.out); replace HH := Aside0.mk hi; clear hi hk ha HTO) | ((with_reducible refine gate_dst (N := 6) rfl ?_); refine box_event ?hg (N := 6) ?hd (cs := #[.int .i64 0, .int .i64 0, .int .i64 0]) (t := 33) ?hr ?_; (case hd => rfl); (case hg => rfl); (case hr => first | (go_simp; done) | (go_simp; rfl)); intro g6 hg_ wv hbox hb; have BK := Aside0.mk hbox; have OV := Aside0.mk (Hp7.IsH.olt HH.out (Nat.le_of_eq hg_.symm)); have G6 := Aside0.mk (show w.heap.size ≤ g6 by rw [hg_]; exact HG.out.size); replace HO := Aside0.mk (Hp10.out_box HO.out (Nat.le_of_eq hg_.symm) hb); replace HH := Aside0.mk (Hp2.IsH.step HH.out hb); replace HG := Aside0.mk (Hp10.HK.grown HG.out (grown_of_below hb none) (by simp)); clear hbox hg_ hb) | ((with_reducible refine gate_store (t := 33) (p := 6) rfl ?_); refine wpList_store_row rfl 33 _ _ rfl g6 #[.int .i64 p0, .int .i64 p1, .int .i64 p2] rfl rfl 33 #[.int .i64 0, .int .i64 0, .int .i64 0] BK.out (by kernel_rfl) rfl (by simp [Value.oneCell']) ?_; replace HO := Aside0.mk (Kd.R_step HO.out (fun k hk _ => setRow_other wv g6 k #[.int .i64 p0, .int .i64 p1, .int .i64 p2] hk.2)); replace HH := Aside0.mk (Hp4.IsH.setr HH.out OV.out BK.out #[.int .i64 p0, .int .i64 p1, .int .i64 p2]); replace HG := Aside0.mk (Hp8.HK.setr HG.out G6.out #[.int .i64 p0, .int .i64 p1, .int .i64 p2]); replace BK := Aside0.mk (setRow_heap _ _ _ #[.int .i64 p0, .int .i64 p1, .int .i64 p2] _ _ BK.out); generalize wv.setRow g6 #[.int .i64 p0, .int .i64 p1, .int .i64 p2] = wv at HO HH HG BK ⊢) | ((with_reducible refine gate_dst (N := 20) rfl ?_); refine wpList_load_row rfl 33 (.tmp 6) rfl g6 rfl 33 #[.int .i64 p0, .int .i64 p1, .int .i64 p2] (0, 0) _ BK.out Try.underlying33 rfl (by kernel_rfl) ?_) | ((with_reducible refine gate_builtin (b := .append) (xs := #[.tmp 19, .tmp 21]) rfl ?_); at_builtin; refine app3G w.heap.size rfl (.tmp 19) (.tmp 21) rfl (.slice A5 out.length c5) out p0 p1 p2 (fun k => some k ≠ v1.ownBlock ∧ k ≠ g6) rfl rfl HO.out (fun k hk => ⟨fun e => by have := Kd.R_lt HH.out.2.2 k e.symm; omega, by have := blk_lt BK.out; omega⟩) HG.out.size (by have := HN.out; have := HL.out; omega) ?_; intro v2 w2 ho hg hat; replace HH := Aside0.mk (Hp10.IsH.grown HH.out hg (fun e => by have := Kd.R_base HO.out b e.symm; have := HBB.out; omega) (fun k hk e => (HO.out.1 k e.symm).1 hk)); replace HG := Aside0.mk (Hp10.HK.grown HG.out hg (fun k e => Kd.R_base HO.out k e)); have HO2 := Aside0.mk ho; clear ho hg hat HO))
      go_roundg (ys.length - 1)
      case measure => have := HK1.out; have := HP.out.1; omega
      case rel =>
        have hq := HQ.out
        have hci := CI.out
        rw [show m - i = (m - (i + 1)) + 1 by omega, drainL, HP.out.2] at hq
        exact ⟨i + 1, popL ys, out ++ [(p0, p1, p2)], v1, ⟨hci⟩, ⟨by have := HN.out; have := HP.out.1; rw [popL_len]; simp; omega⟩, ⟨by rw [popL_len]; exact Nat.le_refl _⟩, ⟨hq.1, by rw [← hq.2]; simp⟩, ⟨Kd.R_mono HO2.out (fun _ hk => hk.1)⟩, HH, HG, HT⟩
    · obtain rfl : i = m := by have := HI.out; omega
      have hq := HQ.out
      rw [Nat.sub_self] at hq
      simp only [drainL, List.append_nil] at hq
      obtain ⟨rfl, rfl⟩ := hq
      clear ci HQ
      by_cases c0 : (out.length : Int) < most
      · obtain rfl : ys = [] := List.eq_nil_of_length_eq_zero (by have := HN.out; have := HM.out; omega)
        have c1 : ((out.length : Int) < most) = True := eq_true c0
        clear c0
        go_wp2_with (first | (go_at_call 14; (with_reducible refine (hpop_e base b v' _ HH.out).mono ?_); rintro e wv ⟨rfl, hb⟩; replace HO := Aside0.mk (Kd.R_below HO.out hb); replace HH := Aside0.mk (Hp2.IsH.step HH.out hb); replace HG := Aside0.mk (Hp10.HK.grown HG.out (grown_of_below hb none) (by simp)); clear hb) | ((with_reducible refine gate_dst (N := 6) rfl ?_); refine box_event ?hg (N := 6) ?hd (cs := #[.int .i64 0, .int .i64 0, .int .i64 0]) (t := 33) ?hr ?_; (case hd => rfl); (case hg => rfl); (case hr => first | (go_simp; done) | (go_simp; rfl)); intro g6 hg_ wv hbox hb; have BK := Aside0.mk hbox; have OV := Aside0.mk (Hp7.IsH.olt HH.out (Nat.le_of_eq hg_.symm)); have G6 := Aside0.mk (show w.heap.size ≤ g6 by rw [hg_]; exact HG.out.size); replace HO := Aside0.mk (Hp10.out_box HO.out (Nat.le_of_eq hg_.symm) hb); replace HH := Aside0.mk (Hp2.IsH.step HH.out hb); replace HG := Aside0.mk (Hp10.HK.grown HG.out (grown_of_below hb none) (by simp)); clear hbox hg_ hb) | ((with_reducible refine gate_store (t := 33) (p := 6) rfl ?_); refine wpList_store_row rfl 33 _ _ rfl g6 #[.int .i64 0, .int .i64 0, .int .i64 0] rfl rfl 33 #[.int .i64 0, .int .i64 0, .int .i64 0] BK.out (by kernel_rfl) rfl (by simp [Value.oneCell']) ?_; replace HO := Aside0.mk (Kd.R_step HO.out (fun k hk _ => setRow_other wv g6 k #[.int .i64 0, .int .i64 0, .int .i64 0] hk.2)); replace HH := Aside0.mk (Hp4.IsH.setr HH.out OV.out BK.out #[.int .i64 0, .int .i64 0, .int .i64 0]); replace HG := Aside0.mk (Hp8.HK.setr HG.out G6.out #[.int .i64 0, .int .i64 0, .int .i64 0]); clear BK; generalize wv.setRow g6 #[.int .i64 0, .int .i64 0, .int .i64 0] = wv at HO HH HG ⊢))
        first | go_ret | go_ret2
        exact ⟨_, rfl, Kd.R_mono HO.out (fun _ _ => trivial), v', HH.out, HG.out, HT.out⟩
      · have c1 : ((out.length : Int) < most) = False := eq_false c0
        clear c0
        go_wp2
        first | go_ret | go_ret2
        exact ⟨_, rfl, Kd.R_mono HO.out (fun _ _ => trivial), v', HH.out, HG.out, HT.out⟩
end Go.Proofs.Ytojaflnejkbjnaa.Hp10
