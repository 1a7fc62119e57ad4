/- move.Apply over routes: its own routes, move.do, move.Same. -/
import Derived.Test.YtcofibbgdnbejaaMv12
namespace Go.Proofs.Ytcofibbgdnbejaa.Mv13
open Go.RowKit Go.Proofs.YtcofibbgdnbejaaW.PrintWords Go.Proofs.YtcofibbgdnbejaaW.PrintLast Go.Proofs.YtcofibbgdnbejaaW.PrintMore Go.Proofs.Ytcofibbgdnbejaa.Ints Go.Proofs.Ytcofibbgdnbejaa.Mv1 Go.Proofs.Ytcofibbgdnbejaa.Mv2 Go.Proofs.Ytcofibbgdnbejaa.Mv3 Go.Proofs.Ytcofibbgdnbejaa.Mv5 Go.Proofs.Ytcofibbgdnbejaa.Mv6 Go.Proofs.Ytcofibbgdnbejaa.Mv7 Go.Proofs.Ytcofibbgdnbejaa.Mv8 Go.Proofs.Ytcofibbgdnbejaa.Mv9 Go.Proofs.Ytcofibbgdnbejaa.Mv11 Go.Proofs.Ytcofibbgdnbejaa.Mv12
set_option linter.unusedVariables false
set_option linter.unusedSimpArgs false
set_option maxHeartbeats 8000000 in
set_option maxRecDepth 100000 in
theorem don_p (k a i b j n : Int) (w : World) (h : a < 0) : Calls Try.prog 21 #[.agg #[.int .i64 k, .int .i64 a, .int .i64 i, .int .i64 b, .int .i64 j, .int .i64 n], .slice none 0 0] w fun e w' => e = .returned (.bool false) ∧ Below w.heap.size w w' := by
  have p185 : (a < 0) = True := eq_true (by omega)
  have q185 : (0 ≤ a) = False := eq_false (by omega)
  clear h
  go_enter Try.func21, Try.ntmps21
  go_wp2_with (first | ((with_reducible refine gate_dst (N := 2) rfl ?_); refine box_event ?hg (N := 2) ?hd (cs := #[.int .i64 k, .int .i64 a, .int .i64 i, .int .i64 b, .int .i64 j, .int .i64 n]) (t := 29) ?hr ?_; (case hd => rfl); (case hg => rfl); (case hr => first | (go_simp; done) | (go_simp; rfl)); intro gm hg_ wv hbox hb; have HB := Aside0.mk hb; have BM := Aside0.mk hbox; have hc1 : wv.cell? ⟨gm, 1, none⟩ = some (.int .i64 a) := (blk_cell BM.out 1).trans rfl; clear hbox hg_ hb))
  first | go_ret | go_ret2
  exact ⟨rfl, HB.out⟩
set_option maxHeartbeats 8000000 in
set_option maxRecDepth 100000 in
theorem don_q (k a i b j n : Int) (w : World) (h : 0 ≤ a) : Calls Try.prog 21 #[.agg #[.int .i64 k, .int .i64 a, .int .i64 i, .int .i64 b, .int .i64 j, .int .i64 n], .slice none 0 0] w fun e w' => e = .returned (.bool false) ∧ Below w.heap.size w w' := by
  have p186 : (a < 0) = False := eq_false (by omega)
  have q186 : (0 ≤ a) = True := eq_true (by omega)
  have p187 : (0 ≤ a) = True := eq_true (by omega)
  have q187 : (a < 0) = False := eq_false (by omega)
  clear h
  go_enter Try.func21, Try.ntmps21
  go_wp2_with (first | ((with_reducible refine gate_dst (N := 2) rfl ?_); refine box_event ?hg (N := 2) ?hd (cs := #[.int .i64 k, .int .i64 a, .int .i64 i, .int .i64 b, .int .i64 j, .int .i64 n]) (t := 29) ?hr ?_; (case hd => rfl); (case hg => rfl); (case hr => first | (go_simp; done) | (go_simp; rfl)); intro gm hg_ wv hbox hb; have HB := Aside0.mk hb; have BM := Aside0.mk hbox; have hc1 : wv.cell? ⟨gm, 1, none⟩ = some (.int .i64 a) := (blk_cell BM.out 1).trans rfl; clear hbox hg_ hb))
  first | go_ret | go_ret2
  exact ⟨rfl, HB.out⟩
theorem don (k a i b j n : Int) (w : World) : Calls Try.prog 21 #[.agg #[.int .i64 k, .int .i64 a, .int .i64 i, .int .i64 b, .int .i64 j, .int .i64 n], .slice none 0 0] w fun e w' => e = .returned (.bool false) ∧ Below w.heap.size w w' := by
  by_cases h : a < 0
  · exact don_p k a i b j n w h
  · exact don_q k a i b j n w (by omega)
section
variable {α : Type} (t : α → Rt) (tb : Rt → α) (h1 : ∀ x, t (tb x) = x)
def ap (tb : Rt → α) (rs : List Rt) (k a i b j n : Int) : List α × Bool := if (doS rs k a i b j n).1 = true ∧ ¬ rs = (doS rs k a i b j n).2 then ((doS rs k a i b j n).2.map tb, true) else ([], false)
include h1
omit h1 in
theorem doS_len (rs : List Rt) (k a i b j n : Int) : (doS rs k a i b j n).2.length = rs.length := by
  unfold doS chS exS taS turnS
  simp only []
  repeat' split
  all_goals simp
theorem do_any (W0 : World) (v0 : Value) (l0 : List α) (k a i b j n : Int) (w : World) (hb : Below W0.heap.size W0 w) (hS : Kd.S (Kd.iso kdp t) 35 w W0.heap.size (fun _ => True) v0 l0) (hm : ∀ j, (st (l0.map t) j).length ≤ 1000000) :
    Calls Try.prog 21 #[.agg #[.int .i64 k, .int .i64 a, .int .i64 i, .int .i64 b, .int .i64 j, .int .i64 n], v0] w fun e w' => e = .returned (.bool (doS (l0.map t) k a i b j n).1) ∧ Below W0.heap.size W0 w' ∧ Kd.S (Kd.iso kdp t) 35 w' W0.heap.size (fun _ => True) v0 ((doS (l0.map t) k a i b j n).2.map tb) := by
  have hS' := hS
  obtain ⟨f, hown, inner, ho, hrep⟩ := hS'
  rcases ho.2 with ⟨hv, hl⟩ | ⟨g, cap, cur, hv, hr⟩
  · subst hv
    obtain rfl : l0 = [] := by
      have := (Kd.S_reads' hS).1
      exact List.length_eq_zero_iff.1 this.symm
    refine (don k a i b j n w).mono ?_
    rintro e w' ⟨rfl, hb2⟩
    have e0 : doS ([].map t) k a i b j n = (false, []) := by
      unfold doS
      rw [if_neg (by simp; omega)]
      rfl
    rw [e0]
    exact ⟨rfl, below_step hb hb2, Kd.S_nil _ _ _ _ _⟩
  · subst hv
    have hn := (Kd.S_reads' hS).1
    rw [hn] at hS ⊢
    obtain ⟨svs, hT⟩ := RT_of_S hS
    have h := do_ W0 g cap (l0.map t) svs k a i b j n w hb hT hm
    rw [List.length_map] at h
    refine h.mono ?_
    rintro e w' ⟨svs', rfl, hb2, hT2⟩
    refine ⟨rfl, hb2, ?_⟩
    have h3 := S_of_RT (t := t) (xs := (doS (l0.map t) k a i b j n).2.map tb) (by rw [List.map_map, show (t ∘ tb) = id from funext h1, List.map_id]; exact hT2)
    rw [List.length_map, doS_len, List.length_map] at h3
    exact h3
omit h1 in
theorem sameM (A : Option Addr) (c : Nat) (x : List α) (B : Option Addr) (d : Nat) (y : List α) (w : World) (hx : Kd.C (Kd.iso kdp t) w A x.length x) (hy : Kd.C (Kd.iso kdp t) w B y.length y) : Calls Try.prog 13 #[.slice A x.length c, .slice B y.length d] w fun e w' => e = .returned (.bool (decide (x.map t = y.map t))) ∧ Below w.heap.size w w' := by
  have h := same_ A c (x.map t) B d (y.map t) w (by rw [List.length_map]; exact C_map hx) (by rw [List.length_map]; exact C_map hy)
  simpa only [List.length_map] using h
set_option maxHeartbeats 8000000 in
set_option maxRecDepth 100000 in
theorem ap_1 (A0 : Option Addr) (c0 : Nat) (l0 : List α) (k a i b j n : Int) (w : World) (hr0 : Kd.C (Kd.iso kdp t) w A0 l0.length l0) (hown : ∀ w, Kd.C (Kd.iso kdp t) w A0 l0.length l0 → Calls Try.prog 20 #[.slice A0 l0.length c0] w fun e w' => ∃ v0_ : Value, e = .returned v0_ ∧ Kd.S (Kd.iso kdp t) 35 w' w.heap.size (fun _ => True) v0_ l0 ∧ Below w.heap.size w w') (hm : ∀ j, (st (l0.map t) j).length ≤ 1000000) (h : (doS (l0.map t) k a i b j n).1 = false) : Calls Try.prog 10 #[.slice A0 l0.length c0, .agg #[.int .i64 k, .int .i64 a, .int .i64 i, .int .i64 b, .int .i64 j, .int .i64 n]] w fun e w' => ∃ v0_ : Value, e = .returned (.tuple #[v0_, .bool (ap tb (l0.map t) k a i b j n).2]) ∧ Kd.S (Kd.iso kdp t) 35 w' w.heap.size (fun _ => True) v0_ (ap tb (l0.map t) k a i b j n).1 ∧ Below w.heap.size w w' := by
  have HM := Aside0.mk hm
  have HD := Aside0.mk (show (doS (l0.map t) k a i b j n).1 = false from h)
  rw [show ap tb (l0.map t) k a i b j n = ([], false) from by unfold ap; rw [if_neg (by rw [h]; simp)]]
  have HR0 := Aside0.mk hr0
  have HRW := Aside0.mk hr0
  clear hm h hr0
  go_enter Try.func10, Try.ntmps10
  go_wp2_with (first | ((with_reducible refine gate_dst (N := 3) rfl ?_); refine box_event ?hg (N := 3) ?hd (cs := #[.int .i64 k, .int .i64 a, .int .i64 i, .int .i64 b, .int .i64 j, .int .i64 n]) (t := 29) ?hr ?_; (case hd => rfl); (case hg => rfl); (case hr => first | (go_simp; done) | (go_simp; rfl)); intro gm hg_ wv hbox hb; have HB := Aside0.mk hb; replace HR0 := Aside0.mk (Kd.C_below HR0.out hb); have BM := Aside0.mk hbox; have HGM := Aside0.mk (Nat.le_of_eq hg_.symm); clear hbox hg_ hb) | (go_at_call 20; (with_reducible refine (hown _ HR0.out).mono ?_); rintro e wv ⟨v0, rfl, hS, hb⟩; have HS := Aside0.mk (Kd.S_lower hS (below_size HB.out)); replace HR0 := Aside0.mk (Kd.C_below HR0.out hb); replace BM := Aside0.mk (blk_below BM.out hb); replace HB := Aside0.mk (below_step HB.out hb); clear hS hb) | ((with_reducible refine gate_dst (N := 9) rfl ?_); refine wpList_load_row rfl 29 (.tmp 3) rfl gm rfl 29 #[.int .i64 k, .int .i64 a, .int .i64 i, .int .i64 b, .int .i64 j, .int .i64 n] (0, 0) _ BM.out Try.underlying29 rfl (by kernel_rfl) ?_) | (go_at_call 21; (with_reducible refine (do_any t tb h1 w v0 l0 k a i b j n _ HB.out HS.out HM.out).mono ?_); rintro e wv ⟨rfl, hb, hS⟩; rw [HD.out]; replace HB := Aside0.mk hb; replace HS := Aside0.mk hS; clear hb hS BM))
  first | go_ret | go_ret2
  exact ⟨_, rfl, Kd.S_nil _ _ _ _ _, HB.out⟩
set_option maxHeartbeats 8000000 in
set_option maxRecDepth 100000 in
theorem ap_2 (A0 : Option Addr) (c0 : Nat) (l0 : List α) (k a i b j n : Int) (w : World) (hr0 : Kd.C (Kd.iso kdp t) w A0 l0.length l0) (hown : ∀ w, Kd.C (Kd.iso kdp t) w A0 l0.length l0 → Calls Try.prog 20 #[.slice A0 l0.length c0] w fun e w' => ∃ v0_ : Value, e = .returned v0_ ∧ Kd.S (Kd.iso kdp t) 35 w' w.heap.size (fun _ => True) v0_ l0 ∧ Below w.heap.size w w') (hm : ∀ j, (st (l0.map t) j).length ≤ 1000000) (h : (doS (l0.map t) k a i b j n).1 = true ∧ l0.map t = (doS (l0.map t) k a i b j n).2) : Calls Try.prog 10 #[.slice A0 l0.length c0, .agg #[.int .i64 k, .int .i64 a, .int .i64 i, .int .i64 b, .int .i64 j, .int .i64 n]] w fun e w' => ∃ v0_ : Value, e = .returned (.tuple #[v0_, .bool (ap tb (l0.map t) k a i b j n).2]) ∧ Kd.S (Kd.iso kdp t) 35 w' w.heap.size (fun _ => True) v0_ (ap tb (l0.map t) k a i b j n).1 ∧ Below w.heap.size w w' := by
  have HM := Aside0.mk hm
  have HD := Aside0.mk (show (doS (l0.map t) k a i b j n).1 = true from h.1)
  have HE := Aside0.mk (show decide (l0.map t = ((doS (l0.map t) k a i b j n).2.map tb).map t) = true by rw [List.map_map, show (t ∘ tb) = id from funext h1, List.map_id]; exact decide_eq_true h.2)
  rw [show ap tb (l0.map t) k a i b j n = ([], false) from by unfold ap; rw [if_neg (fun q => q.2 h.2)]]
  have HR0 := Aside0.mk hr0
  have HRW := Aside0.mk hr0
  clear hm h hr0
  go_enter Try.func10, Try.ntmps10
  go_wp2_with (first | ((with_reducible refine gate_dst (N := 3) rfl ?_); refine box_event ?hg (N := 3) ?hd (cs := #[.int .i64 k, .int .i64 a, .int .i64 i, .int .i64 b, .int .i64 j, .int .i64 n]) (t := 29) ?hr ?_; (case hd => rfl); (case hg => rfl); (case hr => first | (go_simp; done) | (go_simp; rfl)); intro gm hg_ wv hbox hb; have HB := Aside0.mk hb; replace HR0 := Aside0.mk (Kd.C_below HR0.out hb); have BM := Aside0.mk hbox; have HGM := Aside0.mk (Nat.le_of_eq hg_.symm); clear hbox hg_ hb) | (go_at_call 20; (with_reducible refine (hown _ HR0.out).mono ?_); rintro e wv ⟨v0, rfl, hS, hb⟩; have HS := Aside0.mk (Kd.S_lower hS (below_size HB.out)); replace HR0 := Aside0.mk (Kd.C_below HR0.out hb); replace BM := Aside0.mk (blk_below BM.out hb); replace HB := Aside0.mk (below_step HB.out hb); clear hS hb) | ((with_reducible refine gate_dst (N := 9) rfl ?_); refine wpList_load_row rfl 29 (.tmp 3) rfl gm rfl 29 #[.int .i64 k, .int .i64 a, .int .i64 i, .int .i64 b, .int .i64 j, .int .i64 n] (0, 0) _ BM.out Try.underlying29 rfl (by kernel_rfl) ?_) | (go_at_call 21; (with_reducible refine (do_any t tb h1 w v0 l0 k a i b j n _ HB.out HS.out HM.out).mono ?_); rintro e wv ⟨rfl, hb, hS⟩; rw [HD.out]; replace HB := Aside0.mk hb; replace HS := Aside0.mk hS; clear hb hS BM) | (go_at_call 13; obtain ⟨A1, c1, hv, hc1, hC1⟩ := Kd.S_reads HS.out; subst hv; (with_reducible refine (sameM t A0 c0 l0 A1 c1 _ _ (Kd.C_below HRW.out HB.out) hC1).mono ?_); rintro e wv ⟨rfl, hb⟩; rw [HE.out]; replace HS := Aside0.mk (Kd.S_below HS.out hb); replace HB := Aside0.mk (below_step HB.out hb); clear hb hc1 hC1))
  first | go_ret | go_ret2
  exact ⟨_, rfl, Kd.S_nil _ _ _ _ _, HB.out⟩
set_option maxHeartbeats 8000000 in
set_option maxRecDepth 100000 in
theorem ap_3 (A0 : Option Addr) (c0 : Nat) (l0 : List α) (k a i b j n : Int) (w : World) (hr0 : Kd.C (Kd.iso kdp t) w A0 l0.length l0) (hown : ∀ w, Kd.C (Kd.iso kdp t) w A0 l0.length l0 → Calls Try.prog 20 #[.slice A0 l0.length c0] w fun e w' => ∃ v0_ : Value, e = .returned v0_ ∧ Kd.S (Kd.iso kdp t) 35 w' w.heap.size (fun _ => True) v0_ l0 ∧ Below w.heap.size w w') (hm : ∀ j, (st (l0.map t) j).length ≤ 1000000) (h : (doS (l0.map t) k a i b j n).1 = true ∧ ¬ l0.map t = (doS (l0.map t) k a i b j n).2) : Calls Try.prog 10 #[.slice A0 l0.length c0, .agg #[.int .i64 k, .int .i64 a, .int .i64 i, .int .i64 b, .int .i64 j, .int .i64 n]] w fun e w' => ∃ v0_ : Value, e = .returned (.tuple #[v0_, .bool (ap tb (l0.map t) k a i b j n).2]) ∧ Kd.S (Kd.iso kdp t) 35 w' w.heap.size (fun _ => True) v0_ (ap tb (l0.map t) k a i b j n).1 ∧ Below w.heap.size w w' := by
  have HM := Aside0.mk hm
  have HD := Aside0.mk (show (doS (l0.map t) k a i b j n).1 = true from h.1)
  have HE := Aside0.mk (show decide (l0.map t = ((doS (l0.map t) k a i b j n).2.map tb).map t) = false by rw [List.map_map, show (t ∘ tb) = id from funext h1, List.map_id]; exact decide_eq_false h.2)
  rw [show ap tb (l0.map t) k a i b j n = ((doS (l0.map t) k a i b j n).2.map tb, true) from by unfold ap; rw [if_pos h]]
  have HR0 := Aside0.mk hr0
  have HRW := Aside0.mk hr0
  clear hm h hr0
  go_enter Try.func10, Try.ntmps10
  go_wp2_with (first | ((with_reducible refine gate_dst (N := 3) rfl ?_); refine box_event ?hg (N := 3) ?hd (cs := #[.int .i64 k, .int .i64 a, .int .i64 i, .int .i64 b, .int .i64 j, .int .i64 n]) (t := 29) ?hr ?_; (case hd => rfl); (case hg => rfl); (case hr => first | (go_simp; done) | (go_simp; rfl)); intro gm hg_ wv hbox hb; have HB := Aside0.mk hb; replace HR0 := Aside0.mk (Kd.C_below HR0.out hb); have BM := Aside0.mk hbox; have HGM := Aside0.mk (Nat.le_of_eq hg_.symm); clear hbox hg_ hb) | (go_at_call 20; (with_reducible refine (hown _ HR0.out).mono ?_); rintro e wv ⟨v0, rfl, hS, hb⟩; have HS := Aside0.mk (Kd.S_lower hS (below_size HB.out)); replace HR0 := Aside0.mk (Kd.C_below HR0.out hb); replace BM := Aside0.mk (blk_below BM.out hb); replace HB := Aside0.mk (below_step HB.out hb); clear hS hb) | ((with_reducible refine gate_dst (N := 9) rfl ?_); refine wpList_load_row rfl 29 (.tmp 3) rfl gm rfl 29 #[.int .i64 k, .int .i64 a, .int .i64 i, .int .i64 b, .int .i64 j, .int .i64 n] (0, 0) _ BM.out Try.underlying29 rfl (by kernel_rfl) ?_) | (go_at_call 21; (with_reducible refine (do_any t tb h1 w v0 l0 k a i b j n _ HB.out HS.out HM.out).mono ?_); rintro e wv ⟨rfl, hb, hS⟩; rw [HD.out]; replace HB := Aside0.mk hb; replace HS := Aside0.mk hS; clear hb hS BM) | (go_at_call 13; obtain ⟨A1, c1, hv, hc1, hC1⟩ := Kd.S_reads HS.out; subst hv; (with_reducible refine (sameM t A0 c0 l0 A1 c1 _ _ (Kd.C_below HRW.out HB.out) hC1).mono ?_); rintro e wv ⟨rfl, hb⟩; rw [HE.out]; replace HS := Aside0.mk (Kd.S_below HS.out hb); replace HB := Aside0.mk (below_step HB.out hb); clear hb hc1 hC1))
  first | go_ret | go_ret2
  exact ⟨_, rfl, (by have hq := HS.out; rw [List.length_map] at hq; exact hq), HB.out⟩
theorem ap_ (A0 : Option Addr) (c0 : Nat) (l0 : List α) (k a i b j n : Int) (w : World) (hr0 : Kd.C (Kd.iso kdp t) w A0 l0.length l0) (hown : ∀ w, Kd.C (Kd.iso kdp t) w A0 l0.length l0 → Calls Try.prog 20 #[.slice A0 l0.length c0] w fun e w' => ∃ v0_ : Value, e = .returned v0_ ∧ Kd.S (Kd.iso kdp t) 35 w' w.heap.size (fun _ => True) v0_ l0 ∧ Below w.heap.size w w') (hm : ∀ j, (st (l0.map t) j).length ≤ 1000000) : Calls Try.prog 10 #[.slice A0 l0.length c0, .agg #[.int .i64 k, .int .i64 a, .int .i64 i, .int .i64 b, .int .i64 j, .int .i64 n]] w fun e w' => ∃ v0_ : Value, e = .returned (.tuple #[v0_, .bool (ap tb (l0.map t) k a i b j n).2]) ∧ Kd.S (Kd.iso kdp t) 35 w' w.heap.size (fun _ => True) v0_ (ap tb (l0.map t) k a i b j n).1 ∧ Below w.heap.size w w' := by
  cases hd : (doS (l0.map t) k a i b j n).1
  · exact ap_1 t tb h1 A0 c0 l0 k a i b j n w hr0 hown hm hd
  by_cases he : l0.map t = (doS (l0.map t) k a i b j n).2
  · exact ap_2 t tb h1 A0 c0 l0 k a i b j n w hr0 hown hm ⟨hd, he⟩
  · exact ap_3 t tb h1 A0 c0 l0 k a i b j n w hr0 hown hm ⟨hd, he⟩
end
end Go.Proofs.Ytcofibbgdnbejaa.Mv13
