/- move.Same over lists of routes: slices.EqualFunc. -/
import Derived.Test.YtcofibbgdnbejaaMv11
namespace Go.Proofs.Ytcofibbgdnbejaa.Mv12
open Go.RowKit Go.Proofs.YtcofibbgdnbejaaW.PrintWords Go.Proofs.YtcofibbgdnbejaaW.PrintLast Go.Proofs.YtcofibbgdnbejaaW.PrintMore Go.Proofs.Ytcofibbgdnbejaa.Ints Go.Proofs.Ytcofibbgdnbejaa.Mv1 Go.Proofs.Ytcofibbgdnbejaa.Mv2 Go.Proofs.Ytcofibbgdnbejaa.Mv10 Go.Proofs.Ytcofibbgdnbejaa.Mv11
set_option linter.unusedVariables false
set_option linter.unusedSimpArgs false
theorem drop_rr {x y : List Rt} {i : Nat} (hx : i < x.length) (hy : i < y.length) : (x.drop i = y.drop i) ↔ (((rr x (i : Int)).1 = (rr y (i : Int)).1 ∧ (rr x (i : Int)).2 = (rr y (i : Int)).2) ∧ x.drop (i + 1) = y.drop (i + 1)) := by
  rw [List.drop_eq_getElem_cons hx, List.drop_eq_getElem_cons hy, List.cons.injEq]
  simp [rr, hx, hy, Prod.ext_iff]
set_option maxHeartbeats 8000000 in
set_option maxRecDepth 100000 in
theorem ef_ne (A : Option Addr) (c : Nat) (x : List Rt) (B : Option Addr) (d : Nat) (y : List Rt) (w : World) (hl : ¬ x.length = y.length) : Calls Try.prog 24 #[.slice A x.length c, .slice B y.length d, .func (.func 25) #[] #[]] w fun e w' => e = .returned (.bool (decide (x = y))) ∧ Below w.heap.size w w' := by
  have e : decide (x = y) = false := decide_eq_false (fun e => hl (by rw [e]))
  rw [e]
  have p1 : ((x.length : Int) = (y.length : Int)) = False := eq_false (by omega)
  have p2 : ((x.length : Int) == (y.length : Int)) = false := beq_eq_false_iff_ne.mpr (by omega)
  have p3 : ((x.length : Int) != (y.length : Int)) = true := by rw [bne, p2]; rfl
  clear hl e
  go_enter Try.func24, Try.ntmps24
  go_wp2
  first | go_ret | go_ret2
  exact ⟨rfl, Below.refl _ _⟩
set_option maxHeartbeats 8000000 in
set_option maxRecDepth 100000 in
theorem ef_len (A : Option Addr) (c : Nat) (x : List Rt) (B : Option Addr) (d : Nat) (y : List Rt) (w : World) (hx : Kd.C kdp w A x.length x) (hy : Kd.C kdp w B y.length y) (hl : x.length = y.length) : Calls Try.prog 24 #[.slice A x.length c, .slice B y.length d, .func (.func 25) #[] #[]] w fun e w' => e = .returned (.bool (decide (x = y))) ∧ Below w.heap.size w w' := by
  have HX := Aside0.mk hx
  have HY := Aside0.mk hy
  have HL := Aside0.mk hl
  obtain ⟨n, hn⟩ : ∃ n, n = x.length := ⟨_, rfl⟩
  have HN := Aside0.mk hn
  have HM := Aside0.mk (show n ≤ 9223372036854775807 by have := hx.2.1; unfold maxLen at this; omega)
  have HB := Aside0.mk (Below.refl w.heap.size w)
  rw [← hl, ← hn]
  obtain ⟨r, hr⟩ : ∃ r, decide (x = y) = r := ⟨_, rfl⟩
  have HR := Aside0.mk hr
  rw [hr]
  clear hr
  have p2 : ((n : Int) == (n : Int)) = true := beq_self_eq_true _
  have p3 : ((n : Int) != (n : Int)) = false := by rw [bne, p2]; rfl
  clear hx hy hl hn
  go_enter Try.func24, Try.ntmps24
  go_wp2
  go_loopg [17] n (fun kq v17 w' => ∃ i : Nat, v17 = .int .i64 (i : Int) ∧ Aside0 (i ≤ n) ∧ Aside0 (n - i ≤ kq) ∧ Aside0 ((x = y) ↔ x.drop i = y.drop i) ∧ Aside0 (Below w.heap.size w w'))
  case atStart => exact ⟨0, rfl, ⟨Nat.zero_le _⟩, ⟨by omega⟩, ⟨by simp⟩, HB⟩
  case round =>
    clear HB
    obtain ⟨i, rfl, HJ, HG, HE, HB⟩ := hrel
    by_cases c1 : (i : Int) < (n : Int)
    · have HIN := Aside0.mk (show i < n by omega)
      obtain ⟨a1, U2, cu, rfl, h1, h2, hu⟩ := at_R HX.out (i : Int) (by omega) (by have := HN.out; omega)
      obtain ⟨a2, V2, cv, rfl, h3, h4, hv⟩ := at_R HY.out (i : Int) (by omega) (by have := HN.out; have := HL.out; omega)
      have hde := drop_rr (x := x) (y := y) (i := i) (by have := HN.out; omega) (by have := HN.out; have := HL.out; omega)
      rw [Int.toNat_natCast] at h1 h2 h3 h4
      obtain ⟨⟨u1, x2⟩, hru⟩ : ∃ u, rr x (i : Int) = u := ⟨_, rfl⟩
      obtain ⟨⟨v1, y2⟩, hrv⟩ : ∃ u, rr y (i : Int) = u := ⟨_, rfl⟩
      simp only [hru, hrv] at h1 h2 h3 h4 hu hv hde
      have HU := Aside0.mk hu
      have HV := Aside0.mk hv
      have H3 := Aside0.mk h3
      have H4 := Aside0.mk h4
      have k1 := (HB.out.cell (World.block_lt_of_cell? w _ h1)).trans h1
      have k2 := (HB.out.cell (World.block_lt_of_cell? w _ h2)).trans h2
      have HDE := Aside0.mk hde
      have HW := Aside0.mk (show wrap64 ((i : Int) + 1) = ((i + 1 : Nat) : Int) by have := HM.out; unfold wrap64; omega)
      have p0 : (0 ≤ (i : Int)) = True := eq_true (by omega)
      replace c1 := eq_true c1
      clear hru hrv hde hu hv h1 h2 h3 h4
      by_cases huv : u1 = v1 ∧ x2 = y2
      · have HQ := Aside0.mk (decide_eq_true huv)
        have HUV := Aside0.mk huv
        clear huv
        go_wp2_with (first | ((with_reducible refine gate_dst (N := 8) rfl ?_); refine box_event ?hg (N := 8) ?hd (cs := #[.int .i64 0, .slice none 0 0]) (t := 35) ?hr ?_; (case hd => rfl); (case hg => rfl); (case hr => first | (go_simp; done) | (go_simp; rfl)); intro gp hgp wv hbox hb; clear k1 k2; have Sp := Aside0.mk (show w.heap.size ≤ gp by rw [hgp]; exact below_size HB.out); replace HB := Aside0.mk (below_step HB.out hb); have Bp := Aside0.mk hbox; clear hbox hgp hb) | ((with_reducible refine gate_store (t := 35) (p := 8) rfl ?_); refine wpList_store_row rfl 35 _ _ rfl gp #[.int .i64 u1, .slice U2 x2.length cu] rfl rfl 35 #[.int .i64 0, .slice none 0 0] Bp.out (by kernel_rfl) rfl (by first | kernel_rfl | (simp [Value.oneCell']; done) | decide) ?_; have hset := setRow_heap wv gp _ #[.int .i64 u1, .slice U2 x2.length cu] _ _ Bp.out; have hbel := below_setRow HB.out Sp.out #[.int .i64 u1, .slice U2 x2.length cu]; obtain ⟨wn, hwn⟩ : ∃ wn, wn = wv.setRow gp #[.int .i64 u1, .slice U2 x2.length cu] := ⟨_, rfl⟩; rw [← hwn] at hset hbel ⊢; clear hwn Bp; replace HB := Aside0.mk hbel; have Bp := Aside0.mk hset; clear hset hbel; have k3 := (HB.out.cell (World.block_lt_of_cell? w _ H3.out)).trans H3.out; have k4 := (HB.out.cell (World.block_lt_of_cell? w _ H4.out)).trans H4.out) | ((with_reducible refine gate_dst (N := 9) rfl ?_); refine box_event ?hg (N := 9) ?hd (cs := #[.int .i64 0, .slice none 0 0]) (t := 35) ?hr ?_; (case hd => rfl); (case hg => rfl); (case hr => first | (go_simp; done) | (go_simp; rfl)); intro gq hgq wv hbox hb; clear k3 k4; have NE := Aside0.mk (show gp ≠ gq by rw [hgq]; exact Nat.ne_of_lt (blk_lt Bp.out)); have Sq := Aside0.mk (show w.heap.size ≤ gq by rw [hgq]; exact below_size HB.out); replace Bp := Aside0.mk (blk_below Bp.out hb); replace HB := Aside0.mk (below_step HB.out hb); have Bq := Aside0.mk hbox; clear hbox hgq hb) | ((with_reducible refine gate_store (t := 35) (p := 9) rfl ?_); refine wpList_store_row rfl 35 _ _ rfl gq #[.int .i64 v1, .slice V2 y2.length cv] rfl rfl 35 #[.int .i64 0, .slice none 0 0] Bq.out (by kernel_rfl) rfl (by first | kernel_rfl | (simp [Value.oneCell']; done) | decide) ?_; have hset := setRow_heap wv gq _ #[.int .i64 v1, .slice V2 y2.length cv] _ _ Bq.out; have hbel := below_setRow HB.out Sq.out #[.int .i64 v1, .slice V2 y2.length cv]; have hset2 := (setRow_other wv gq gp #[.int .i64 v1, .slice V2 y2.length cv] NE.out).trans Bp.out; obtain ⟨wn, hwn⟩ : ∃ wn, wn = wv.setRow gq #[.int .i64 v1, .slice V2 y2.length cv] := ⟨_, rfl⟩; rw [← hwn] at hset hbel hset2 ⊢; clear hwn Bq; replace HB := Aside0.mk hbel; have Bq := Aside0.mk hset; clear hset hbel; replace Bp := Aside0.mk hset2; clear hset2) | ((with_reducible refine gate_dst (N := 27) rfl ?_); refine wpList_load_row rfl 35 (.tmp 8) rfl gp rfl 35 #[.int .i64 u1, .slice U2 x2.length cu] (0, 0) _ Bp.out Try.underlying35 rfl (by kernel_rfl) ?_) | ((with_reducible refine gate_dst (N := 28) rfl ?_); refine wpList_load_row rfl 35 (.tmp 9) rfl gq rfl 35 #[.int .i64 v1, .slice V2 y2.length cv] (0, 0) _ Bq.out Try.underlying35 rfl (by kernel_rfl) ?_) | (go_at_call 25; (with_reducible refine (cl_ u1 v1 U2 cu x2 V2 cv y2 _ (Kd.C_below HU.out HB.out) (Kd.C_below HV.out HB.out)).mono ?_); rintro e wv ⟨rfl, hb⟩; rw [HQ.out]; replace HB := Aside0.mk (below_step HB.out hb); clear hb))
        go_roundg (n - (i + 1))
        case measure => have := HJ.out; have := HG.out; have := HIN.out; omega
        case rel => exact ⟨i + 1, by first | rfl | rw [HW.out], ⟨by have := HIN.out; omega⟩, ⟨by omega⟩, ⟨HE.out.trans (HDE.out.trans ⟨fun h => h.2, fun h => ⟨HUV.out, h⟩⟩)⟩, HB⟩
      · have HQ := Aside0.mk (decide_eq_false huv)
        have e : false = r := by rw [← HR.out]; exact (decide_eq_false (fun h => huv (HDE.out.1 (HE.out.1 h)).1)).symm
        clear huv
        subst e
        go_wp2_with (first | ((with_reducible refine gate_dst (N := 8) rfl ?_); refine box_event ?hg (N := 8) ?hd (cs := #[.int .i64 0, .slice none 0 0]) (t := 35) ?hr ?_; (case hd => rfl); (case hg => rfl); (case hr => first | (go_simp; done) | (go_simp; rfl)); intro gp hgp wv hbox hb; clear k1 k2; have Sp := Aside0.mk (show w.heap.size ≤ gp by rw [hgp]; exact below_size HB.out); replace HB := Aside0.mk (below_step HB.out hb); have Bp := Aside0.mk hbox; clear hbox hgp hb) | ((with_reducible refine gate_store (t := 35) (p := 8) rfl ?_); refine wpList_store_row rfl 35 _ _ rfl gp #[.int .i64 u1, .slice U2 x2.length cu] rfl rfl 35 #[.int .i64 0, .slice none 0 0] Bp.out (by kernel_rfl) rfl (by first | kernel_rfl | (simp [Value.oneCell']; done) | decide) ?_; have hset := setRow_heap wv gp _ #[.int .i64 u1, .slice U2 x2.length cu] _ _ Bp.out; have hbel := below_setRow HB.out Sp.out #[.int .i64 u1, .slice U2 x2.length cu]; obtain ⟨wn, hwn⟩ : ∃ wn, wn = wv.setRow gp #[.int .i64 u1, .slice U2 x2.length cu] := ⟨_, rfl⟩; rw [← hwn] at hset hbel ⊢; clear hwn Bp; replace HB := Aside0.mk hbel; have Bp := Aside0.mk hset; clear hset hbel; have k3 := (HB.out.cell (World.block_lt_of_cell? w _ H3.out)).trans H3.out; have k4 := (HB.out.cell (World.block_lt_of_cell? w _ H4.out)).trans H4.out) | ((with_reducible refine gate_dst (N := 9) rfl ?_); refine box_event ?hg (N := 9) ?hd (cs := #[.int .i64 0, .slice none 0 0]) (t := 35) ?hr ?_; (case hd => rfl); (case hg => rfl); (case hr => first | (go_simp; done) | (go_simp; rfl)); intro gq hgq wv hbox hb; clear k3 k4; have NE := Aside0.mk (show gp ≠ gq by rw [hgq]; exact Nat.ne_of_lt (blk_lt Bp.out)); have Sq := Aside0.mk (show w.heap.size ≤ gq by rw [hgq]; exact below_size HB.out); replace Bp := Aside0.mk (blk_below Bp.out hb); replace HB := Aside0.mk (below_step HB.out hb); have Bq := Aside0.mk hbox; clear hbox hgq hb) | ((with_reducible refine gate_store (t := 35) (p := 9) rfl ?_); refine wpList_store_row rfl 35 _ _ rfl gq #[.int .i64 v1, .slice V2 y2.length cv] rfl rfl 35 #[.int .i64 0, .slice none 0 0] Bq.out (by kernel_rfl) rfl (by first | kernel_rfl | (simp [Value.oneCell']; done) | decide) ?_; have hset := setRow_heap wv gq _ #[.int .i64 v1, .slice V2 y2.length cv] _ _ Bq.out; have hbel := below_setRow HB.out Sq.out #[.int .i64 v1, .slice V2 y2.length cv]; have hset2 := (setRow_other wv gq gp #[.int .i64 v1, .slice V2 y2.length cv] NE.out).trans Bp.out; obtain ⟨wn, hwn⟩ : ∃ wn, wn = wv.setRow gq #[.int .i64 v1, .slice V2 y2.length cv] := ⟨_, rfl⟩; rw [← hwn] at hset hbel hset2 ⊢; clear hwn Bq; replace HB := Aside0.mk hbel; have Bq := Aside0.mk hset; clear hset hbel; replace Bp := Aside0.mk hset2; clear hset2) | ((with_reducible refine gate_dst (N := 27) rfl ?_); refine wpList_load_row rfl 35 (.tmp 8) rfl gp rfl 35 #[.int .i64 u1, .slice U2 x2.length cu] (0, 0) _ Bp.out Try.underlying35 rfl (by kernel_rfl) ?_) | ((with_reducible refine gate_dst (N := 28) rfl ?_); refine wpList_load_row rfl 35 (.tmp 9) rfl gq rfl 35 #[.int .i64 v1, .slice V2 y2.length cv] (0, 0) _ Bq.out Try.underlying35 rfl (by kernel_rfl) ?_) | (go_at_call 25; (with_reducible refine (cl_ u1 v1 U2 cu x2 V2 cv y2 _ (Kd.C_below HU.out HB.out) (Kd.C_below HV.out HB.out)).mono ?_); rintro e wv ⟨rfl, hb⟩; rw [HQ.out]; replace HB := Aside0.mk (below_step HB.out hb); clear hb))
        first | go_ret | go_ret2
        exact ⟨rfl, HB.out⟩
    · obtain rfl : i = n := by have := HJ.out; omega
      replace c1 := eq_false c1
      have e : true = r := by rw [← HR.out]; exact (decide_eq_true (HE.out.2 (by rw [List.drop_of_length_le (by have := HN.out; omega), List.drop_of_length_le (by have := HN.out; have := HL.out; omega)]))).symm
      subst e
      go_wp2
      first | go_ret | go_ret2
      exact ⟨rfl, HB.out⟩
theorem ef_ (A : Option Addr) (c : Nat) (x : List Rt) (B : Option Addr) (d : Nat) (y : List Rt) (w : World) (hx : Kd.C kdp w A x.length x) (hy : Kd.C kdp w B y.length y) : Calls Try.prog 24 #[.slice A x.length c, .slice B y.length d, .func (.func 25) #[] #[]] w fun e w' => e = .returned (.bool (decide (x = y))) ∧ Below w.heap.size w w' := by
  by_cases hl : x.length = y.length
  · exact ef_len A c x B d y w hx hy hl
  · exact ef_ne A c x B d y w hl
set_option maxHeartbeats 8000000 in
set_option maxRecDepth 100000 in
theorem same_ (A : Option Addr) (c : Nat) (x : List Rt) (B : Option Addr) (d : Nat) (y : List Rt) (w : World) (hx : Kd.C kdp w A x.length x) (hy : Kd.C kdp w B y.length y) : Calls Try.prog 13 #[.slice A x.length c, .slice B y.length d] w fun e w' => e = .returned (.bool (decide (x = y))) ∧ Below w.heap.size w w' := by
  have HX := Aside0.mk hx
  have HY := Aside0.mk hy
  obtain ⟨r, hr⟩ : ∃ r, decide (x = y) = r := ⟨_, rfl⟩
  have HR := Aside0.mk hr
  rw [hr]
  clear hx hy hr
  go_enter Try.func13, Try.ntmps13
  go_wp2_with (go_at_call 24; (with_reducible refine (ef_ A c x B d y _ HX.out HY.out).mono ?_); rintro e wv ⟨rfl, hb⟩; rw [HR.out]; have HB := Aside0.mk hb; clear hb)
  first | go_ret | go_ret2
  exact ⟨rfl, HB.out⟩
end Go.Proofs.Ytcofibbgdnbejaa.Mv12
