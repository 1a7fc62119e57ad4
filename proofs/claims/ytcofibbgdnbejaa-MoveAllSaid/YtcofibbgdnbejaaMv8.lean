/- The appliers of moves whole, and move.do over routes in memory. -/
import Derived.Test.YtcofibbgdnbejaaMv7
namespace Go.Proofs.Ytcofibbgdnbejaa.Mv8
open Go.RowKit Go.Proofs.YtcofibbgdnbejaaW.PrintWords Go.Proofs.YtcofibbgdnbejaaW.PrintLast Go.Proofs.YtcofibbgdnbejaaW.PrintMore Go.Proofs.Ytcofibbgdnbejaa.Ints Go.Proofs.Ytcofibbgdnbejaa.Mv1 Go.Proofs.Ytcofibbgdnbejaa.Mv2 Go.Proofs.Ytcofibbgdnbejaa.Mv3 Go.Proofs.Ytcofibbgdnbejaa.Mv4 Go.Proofs.Ytcofibbgdnbejaa.Mv5 Go.Proofs.Ytcofibbgdnbejaa.Mv6 Go.Proofs.Ytcofibbgdnbejaa.Mv7
attribute [local go_sem] max2_int min2_int max_two min_two max_three min_three max_four min_four
set_option linter.unusedVariables false
set_option linter.unusedSimpArgs false
theorem turn_ (W0 : World) (g cap : Nat) (rs : List Rt) (svs : List (Option Addr × Nat)) (k a i b j n : Int) (w : World) (hb : Below W0.heap.size W0 w) (hT : RT w W0.heap.size g cap rs svs) (ha : 0 ≤ a) (hal : a < rs.length) (hb0 : 0 ≤ b) (hbl : b < rs.length) : Calls Try.prog 32 #[.agg #[.int .i64 k, .int .i64 a, .int .i64 i, .int .i64 b, .int .i64 j, .int .i64 n], .slice (some ⟨g, 0, none⟩) rs.length cap] w fun e w' => ∃ svs', e = .returned (.bool (turnS rs a b i j).1) ∧ Below W0.heap.size W0 w' ∧ RT w' W0.heap.size g cap (turnS rs a b i j).2 svs' := by
  by_cases h1 : a = b
  · by_cases h2 : i < 0
    · exact turn_n2 W0 g cap rs svs k a i b j n w hb hT ha hal hb0 hbl ⟨h1, h2⟩
    · by_cases h3 : j ≤ i
      · exact turn_n3 W0 g cap rs svs k a i b j n w hb hT ha hal hb0 hbl ⟨h1, by omega, h3⟩
      · by_cases h4 : ((st rs a.toNat).length : Int) ≤ j
        · exact turn_n4 W0 g cap rs svs k a i b j n w hb hT ha hal hb0 hbl ⟨h1, by omega, by omega, h4⟩
        · exact turn_y W0 g cap rs svs k a i b j n w hb hT ha hal hb0 hbl ⟨h1, by omega, by omega, by omega⟩
  · exact turn_n1 W0 g cap rs svs k a i b j n w hb hT ha hal hb0 hbl h1
theorem ex_ (W0 : World) (g cap : Nat) (rs : List Rt) (svs : List (Option Addr × Nat)) (k a i b j n : Int) (w : World) (hb : Below W0.heap.size W0 w) (hT : RT w W0.heap.size g cap rs svs) (ha : 0 ≤ a) (hal : a < rs.length) (hb0 : 0 ≤ b) (hbl : b < rs.length) : Calls Try.prog 30 #[.agg #[.int .i64 k, .int .i64 a, .int .i64 i, .int .i64 b, .int .i64 j, .int .i64 n], .slice (some ⟨g, 0, none⟩) rs.length cap] w fun e w' => ∃ svs', e = .returned (.bool (exS rs a b i j).1) ∧ Below W0.heap.size W0 w' ∧ RT w' W0.heap.size g cap (exS rs a b i j).2 svs' := by
  by_cases h0 : b < a
  · exact ex_n1 W0 g cap rs svs k a i b j n w hb hT ha hal hb0 hbl h0
  · by_cases h1 : a = b
    · by_cases h2 : j ≤ i
      · exact ex_n2 W0 g cap rs svs k a i b j n w hb hT ha hal hb0 hbl ⟨h1, h2⟩
      · have h : a = b ∧ i < j := ⟨h1, by omega⟩
        by_cases h3 : i < 0
        · exact ex_n31 W0 g cap rs svs k a i b j n w hb hT ha hal hb0 hbl ⟨h, h3⟩
        · by_cases h4 : ((st rs a.toNat).length : Int) ≤ i
          · exact ex_n41 W0 g cap rs svs k a i b j n w hb hT ha hal hb0 hbl ⟨h, by omega, h4⟩
          · by_cases h5 : j < 0
            · exact ex_n51 W0 g cap rs svs k a i b j n w hb hT ha hal hb0 hbl ⟨h, by omega, by omega, h5⟩
            · by_cases h6 : ((st rs b.toNat).length : Int) ≤ j
              · exact ex_n61 W0 g cap rs svs k a i b j n w hb hT ha hal hb0 hbl ⟨h, by omega, by omega, by omega, h6⟩
              · exact ex_y1 W0 g cap rs svs k a i b j n w hb hT ha hal hb0 hbl ⟨h, by omega, by omega, by omega, by omega⟩
    · have h : a < b := by omega
      by_cases h3 : i < 0
      · exact ex_n30 W0 g cap rs svs k a i b j n w hb hT ha hal hb0 hbl ⟨h, h3⟩
      · by_cases h4 : ((st rs a.toNat).length : Int) ≤ i
        · exact ex_n40 W0 g cap rs svs k a i b j n w hb hT ha hal hb0 hbl ⟨h, by omega, h4⟩
        · by_cases h5 : j < 0
          · exact ex_n50 W0 g cap rs svs k a i b j n w hb hT ha hal hb0 hbl ⟨h, by omega, by omega, h5⟩
          · by_cases h6 : ((st rs b.toNat).length : Int) ≤ j
            · exact ex_n60 W0 g cap rs svs k a i b j n w hb hT ha hal hb0 hbl ⟨h, by omega, by omega, by omega, h6⟩
            · exact ex_y0 W0 g cap rs svs k a i b j n w hb hT ha hal hb0 hbl ⟨h, by omega, by omega, by omega, by omega⟩
theorem ta_ (W0 : World) (g cap : Nat) (rs : List Rt) (svs : List (Option Addr × Nat)) (k a i b j n : Int) (w : World) (hb : Below W0.heap.size W0 w) (hT : RT w W0.heap.size g cap rs svs) (ha : 0 ≤ a) (hal : a < rs.length) (hb0 : 0 ≤ b) (hbl : b < rs.length) (hm : ∀ j, (st rs j).length ≤ 1000000) : Calls Try.prog 31 #[.agg #[.int .i64 k, .int .i64 a, .int .i64 i, .int .i64 b, .int .i64 j, .int .i64 n], .slice (some ⟨g, 0, none⟩) rs.length cap] w fun e w' => ∃ svs', e = .returned (.bool (taS rs a b i j).1) ∧ Below W0.heap.size W0 w' ∧ RT w' W0.heap.size g cap (taS rs a b i j).2 svs' := by
  by_cases h1 : b ≤ a
  · exact ta_n1 W0 g cap rs svs k a i b j n w hb hT ha hal hb0 hbl h1
  · by_cases h2 : i < 0
    · exact ta_n2 W0 g cap rs svs k a i b j n w hb hT ha hal hb0 hbl ⟨by omega, h2⟩
    · by_cases h3 : ((st rs a.toNat).length : Int) < i
      · exact ta_n3 W0 g cap rs svs k a i b j n w hb hT ha hal hb0 hbl ⟨by omega, by omega, h3⟩
      · by_cases h4 : j < 0
        · exact ta_n4 W0 g cap rs svs k a i b j n w hb hT ha hal hb0 hbl ⟨by omega, by omega, by omega, h4⟩
        · by_cases h5 : ((st rs b.toNat).length : Int) < j
          · exact ta_n5 W0 g cap rs svs k a i b j n w hb hT ha hal hb0 hbl ⟨by omega, by omega, by omega, by omega, h5⟩
          · exact ta_y W0 g cap rs svs k a i b j n w hb hT ha hal hb0 hbl hm ⟨by omega, by omega, by omega, by omega, by omega⟩
theorem ch_ (W0 : World) (g cap : Nat) (rs : List Rt) (svs : List (Option Addr × Nat)) (k a i b j n : Int) (w : World) (hb : Below W0.heap.size W0 w) (hT : RT w W0.heap.size g cap rs svs) (p : Int) (hp1 : 1 ≤ p) (hp3 : p ≤ 3) (hm : ∀ j, (st rs j).length ≤ 1000000) (ha : 0 ≤ a) (hal : a < rs.length) (hb0 : 0 ≤ b) (hbl : b < rs.length) : Calls Try.prog 29 #[.agg #[.int .i64 k, .int .i64 a, .int .i64 i, .int .i64 b, .int .i64 j, .int .i64 n], .slice (some ⟨g, 0, none⟩) rs.length cap, .int .i64 p] w fun e w' => ∃ svs', e = .returned (.bool (chS rs a b i j p).1) ∧ Below W0.heap.size W0 w' ∧ RT w' W0.heap.size g cap (chS rs a b i j p).2 svs' := by
  by_cases h1 : i < 0
  · exact ch_n1 W0 g cap rs svs k a i b j n w hb hT p hp1 hp3 hm ha hal hb0 hbl h1
  · by_cases h2 : ((st rs a.toNat).length : Int) < i + p
    · exact ch_n2 W0 g cap rs svs k a i b j n w hb hT p hp1 hp3 hm ha hal hb0 hbl ⟨by omega, h2⟩
    · by_cases h3 : j < 0
      · exact ch_n3 W0 g cap rs svs k a i b j n w hb hT p hp1 hp3 hm ha hal hb0 hbl ⟨by omega, by omega⟩ h3
      · by_cases h4 : ((st (rs.set a.toNat (tr rs a.toNat, (st rs a.toNat).take i.toNat ++ (st rs a.toNat).drop (i.toNat + p.toNat))) b.toNat).length : Int) < j
        · exact ch_n4 W0 g cap rs svs k a i b j n w hb hT p hp1 hp3 hm ha hal hb0 hbl ⟨by omega, by omega⟩ ⟨by omega, h4⟩
        · exact ch_y W0 g cap rs svs k a i b j n w hb hT p hp1 hp3 hm ha hal hb0 hbl ⟨by omega, by omega⟩ ⟨by omega, by omega⟩
def doS (rs : List Rt) (k a i b j n : Int) : Bool × List Rt :=
  if (0 ≤ a ∧ a < (rs.length : Int)) ∧ (0 ≤ b ∧ b < (rs.length : Int)) ∧ (k = 3 ∨ n = 0) then
    if k = 1 then chS rs a b i j 1 else if k = 2 then exS rs a b i j else if k = 3 then (if 2 ≤ n ∧ n ≤ 3 then chS rs a b i j n else (false, rs)) else if k = 4 then taS rs a b i j else if k = 5 then turnS rs a b i j else (false, rs)
  else (false, rs)
set_option maxHeartbeats 8000000 in
set_option maxRecDepth 100000 in
theorem do_g1 (W0 : World) (g cap : Nat) (rs : List Rt) (svs : List (Option Addr × Nat)) (k a i b j n : Int) (w : World) (hb : Below W0.heap.size W0 w) (hT : RT w W0.heap.size g cap rs svs) (hm : ∀ j, (st rs j).length ≤ 1000000) (h : a < 0) : Calls Try.prog 21 #[.agg #[.int .i64 k, .int .i64 a, .int .i64 i, .int .i64 b, .int .i64 j, .int .i64 n], .slice (some ⟨g, 0, none⟩) rs.length cap] w fun e w' => ∃ svs', e = .returned (.bool (doS rs k a i b j n).1) ∧ Below W0.heap.size W0 w' ∧ RT w' W0.heap.size g cap (doS rs k a i b j n).2 svs' := by
  have HB := Aside0.mk hb
  have HT := Aside0.mk hT
  have HM := Aside0.mk hm
  clear hb hT hm
  have HR := Aside0.mk (show (false, rs) = doS rs k a i b j n by unfold doS; rw [if_neg (by omega)])
  rw [← HR.out]
  have p87 : (a < 0) = True := eq_true (by omega)
  have q87 : (0 ≤ a) = False := eq_false (by omega)
  clear h
  go_enter Try.func21, Try.ntmps21
  go_wp2_with (first | ((with_reducible refine gate_dst (N := 2) rfl ?_); refine box_event ?hg (N := 2) ?hd (cs := #[.int .i64 k, .int .i64 a, .int .i64 i, .int .i64 b, .int .i64 j, .int .i64 n]) (t := 29) ?hr ?_; (case hd => rfl); (case hg => rfl); (case hr => first | (go_simp; done) | (go_simp; rfl)); intro gm hg_ wv hbox hb; have BM := Aside0.mk hbox; have GM := Aside0.mk (Nat.le_of_eq hg_.symm); have NG := Aside0.mk (show g < gm by rw [hg_]; exact RT.lt HT.out); replace HB := Aside0.mk (below_step HB.out hb); replace HT := Aside0.mk (RT.below HT.out hb); clear hb hbox hg_; have hm1 : wv.cell? ⟨gm, 1, none⟩ = some (.int .i64 a) := (blk_cell BM.out 1).trans rfl))
  first | go_ret | go_ret2
  exact ⟨_, rfl, HB.out, HT.out⟩
set_option maxHeartbeats 8000000 in
set_option maxRecDepth 100000 in
theorem do_g2 (W0 : World) (g cap : Nat) (rs : List Rt) (svs : List (Option Addr × Nat)) (k a i b j n : Int) (w : World) (hb : Below W0.heap.size W0 w) (hT : RT w W0.heap.size g cap rs svs) (hm : ∀ j, (st rs j).length ≤ 1000000) (h : 0 ≤ a ∧ (rs.length : Int) ≤ a) : Calls Try.prog 21 #[.agg #[.int .i64 k, .int .i64 a, .int .i64 i, .int .i64 b, .int .i64 j, .int .i64 n], .slice (some ⟨g, 0, none⟩) rs.length cap] w fun e w' => ∃ svs', e = .returned (.bool (doS rs k a i b j n).1) ∧ Below W0.heap.size W0 w' ∧ RT w' W0.heap.size g cap (doS rs k a i b j n).2 svs' := by
  have HB := Aside0.mk hb
  have HT := Aside0.mk hT
  have HM := Aside0.mk hm
  clear hb hT hm
  have HR := Aside0.mk (show (false, rs) = doS rs k a i b j n by unfold doS; rw [if_neg (by omega)])
  rw [← HR.out]
  have p88 : (a < 0) = False := eq_false (by omega)
  have q88 : (0 ≤ a) = True := eq_true (by omega)
  have p89 : ((rs.length : Int) ≤ a) = True := eq_true (by omega)
  have q89 : (a < (rs.length : Int)) = False := eq_false (by omega)
  clear h
  go_enter Try.func21, Try.ntmps21
  go_wp2_with (first | ((with_reducible refine gate_dst (N := 2) rfl ?_); refine box_event ?hg (N := 2) ?hd (cs := #[.int .i64 k, .int .i64 a, .int .i64 i, .int .i64 b, .int .i64 j, .int .i64 n]) (t := 29) ?hr ?_; (case hd => rfl); (case hg => rfl); (case hr => first | (go_simp; done) | (go_simp; rfl)); intro gm hg_ wv hbox hb; have BM := Aside0.mk hbox; have GM := Aside0.mk (Nat.le_of_eq hg_.symm); have NG := Aside0.mk (show g < gm by rw [hg_]; exact RT.lt HT.out); replace HB := Aside0.mk (below_step HB.out hb); replace HT := Aside0.mk (RT.below HT.out hb); clear hb hbox hg_; have hm1 : wv.cell? ⟨gm, 1, none⟩ = some (.int .i64 a) := (blk_cell BM.out 1).trans rfl))
  first | go_ret | go_ret2
  exact ⟨_, rfl, HB.out, HT.out⟩
set_option maxHeartbeats 8000000 in
set_option maxRecDepth 100000 in
theorem do_g3 (W0 : World) (g cap : Nat) (rs : List Rt) (svs : List (Option Addr × Nat)) (k a i b j n : Int) (w : World) (hb : Below W0.heap.size W0 w) (hT : RT w W0.heap.size g cap rs svs) (hm : ∀ j, (st rs j).length ≤ 1000000) (h : (0 ≤ a ∧ a < (rs.length : Int)) ∧ b < 0) : Calls Try.prog 21 #[.agg #[.int .i64 k, .int .i64 a, .int .i64 i, .int .i64 b, .int .i64 j, .int .i64 n], .slice (some ⟨g, 0, none⟩) rs.length cap] w fun e w' => ∃ svs', e = .returned (.bool (doS rs k a i b j n).1) ∧ Below W0.heap.size W0 w' ∧ RT w' W0.heap.size g cap (doS rs k a i b j n).2 svs' := by
  have HB := Aside0.mk hb
  have HT := Aside0.mk hT
  have HM := Aside0.mk hm
  clear hb hT hm
  have HR := Aside0.mk (show (false, rs) = doS rs k a i b j n by unfold doS; rw [if_neg (by omega)])
  rw [← HR.out]
  have p90 : (a < 0) = False := eq_false (by omega)
  have q90 : (0 ≤ a) = True := eq_true (by omega)
  have p91 : ((rs.length : Int) ≤ a) = False := eq_false (by omega)
  have q91 : (a < (rs.length : Int)) = True := eq_true (by omega)
  have p92 : (b < 0) = True := eq_true (by omega)
  have q92 : (0 ≤ b) = False := eq_false (by omega)
  clear h
  go_enter Try.func21, Try.ntmps21
  go_wp2_with (first | ((with_reducible refine gate_dst (N := 2) rfl ?_); refine box_event ?hg (N := 2) ?hd (cs := #[.int .i64 k, .int .i64 a, .int .i64 i, .int .i64 b, .int .i64 j, .int .i64 n]) (t := 29) ?hr ?_; (case hd => rfl); (case hg => rfl); (case hr => first | (go_simp; done) | (go_simp; rfl)); intro gm hg_ wv hbox hb; have BM := Aside0.mk hbox; have GM := Aside0.mk (Nat.le_of_eq hg_.symm); have NG := Aside0.mk (show g < gm by rw [hg_]; exact RT.lt HT.out); replace HB := Aside0.mk (below_step HB.out hb); replace HT := Aside0.mk (RT.below HT.out hb); clear hb hbox hg_; have hm1 : wv.cell? ⟨gm, 1, none⟩ = some (.int .i64 a) := (blk_cell BM.out 1).trans rfl; have hm3 : wv.cell? ⟨gm, 3, none⟩ = some (.int .i64 b) := (blk_cell BM.out 3).trans rfl))
  first | go_ret | go_ret2
  exact ⟨_, rfl, HB.out, HT.out⟩
set_option maxHeartbeats 8000000 in
set_option maxRecDepth 100000 in
theorem do_g4 (W0 : World) (g cap : Nat) (rs : List Rt) (svs : List (Option Addr × Nat)) (k a i b j n : Int) (w : World) (hb : Below W0.heap.size W0 w) (hT : RT w W0.heap.size g cap rs svs) (hm : ∀ j, (st rs j).length ≤ 1000000) (h : (0 ≤ a ∧ a < (rs.length : Int)) ∧ 0 ≤ b ∧ (rs.length : Int) ≤ b) : Calls Try.prog 21 #[.agg #[.int .i64 k, .int .i64 a, .int .i64 i, .int .i64 b, .int .i64 j, .int .i64 n], .slice (some ⟨g, 0, none⟩) rs.length cap] w fun e w' => ∃ svs', e = .returned (.bool (doS rs k a i b j n).1) ∧ Below W0.heap.size W0 w' ∧ RT w' W0.heap.size g cap (doS rs k a i b j n).2 svs' := by
  have HB := Aside0.mk hb
  have HT := Aside0.mk hT
  have HM := Aside0.mk hm
  clear hb hT hm
  have HR := Aside0.mk (show (false, rs) = doS rs k a i b j n by unfold doS; rw [if_neg (by omega)])
  rw [← HR.out]
  have p93 : (a < 0) = False := eq_false (by omega)
  have q93 : (0 ≤ a) = True := eq_true (by omega)
  have p94 : ((rs.length : Int) ≤ a) = False := eq_false (by omega)
  have q94 : (a < (rs.length : Int)) = True := eq_true (by omega)
  have p95 : (b < 0) = False := eq_false (by omega)
  have q95 : (0 ≤ b) = True := eq_true (by omega)
  have p96 : ((rs.length : Int) ≤ b) = True := eq_true (by omega)
  have q96 : (b < (rs.length : Int)) = False := eq_false (by omega)
  clear h
  go_enter Try.func21, Try.ntmps21
  go_wp2_with (first | ((with_reducible refine gate_dst (N := 2) rfl ?_); refine box_event ?hg (N := 2) ?hd (cs := #[.int .i64 k, .int .i64 a, .int .i64 i, .int .i64 b, .int .i64 j, .int .i64 n]) (t := 29) ?hr ?_; (case hd => rfl); (case hg => rfl); (case hr => first | (go_simp; done) | (go_simp; rfl)); intro gm hg_ wv hbox hb; have BM := Aside0.mk hbox; have GM := Aside0.mk (Nat.le_of_eq hg_.symm); have NG := Aside0.mk (show g < gm by rw [hg_]; exact RT.lt HT.out); replace HB := Aside0.mk (below_step HB.out hb); replace HT := Aside0.mk (RT.below HT.out hb); clear hb hbox hg_; have hm1 : wv.cell? ⟨gm, 1, none⟩ = some (.int .i64 a) := (blk_cell BM.out 1).trans rfl; have hm3 : wv.cell? ⟨gm, 3, none⟩ = some (.int .i64 b) := (blk_cell BM.out 3).trans rfl))
  first | go_ret | go_ret2
  exact ⟨_, rfl, HB.out, HT.out⟩
set_option maxHeartbeats 8000000 in
set_option maxRecDepth 100000 in
theorem do_g5 (W0 : World) (g cap : Nat) (rs : List Rt) (svs : List (Option Addr × Nat)) (k a i b j n : Int) (w : World) (hb : Below W0.heap.size W0 w) (hT : RT w W0.heap.size g cap rs svs) (hm : ∀ j, (st rs j).length ≤ 1000000) (h : (0 ≤ a ∧ a < (rs.length : Int)) ∧ (0 ≤ b ∧ b < (rs.length : Int)) ∧ ¬ k = 3 ∧ ¬ n = 0) : Calls Try.prog 21 #[.agg #[.int .i64 k, .int .i64 a, .int .i64 i, .int .i64 b, .int .i64 j, .int .i64 n], .slice (some ⟨g, 0, none⟩) rs.length cap] w fun e w' => ∃ svs', e = .returned (.bool (doS rs k a i b j n).1) ∧ Below W0.heap.size W0 w' ∧ RT w' W0.heap.size g cap (doS rs k a i b j n).2 svs' := by
  have HB := Aside0.mk hb
  have HT := Aside0.mk hT
  have HM := Aside0.mk hm
  clear hb hT hm
  have HR := Aside0.mk (show (false, rs) = doS rs k a i b j n by unfold doS; rw [if_neg (by omega)])
  rw [← HR.out]
  have p97 : (a < 0) = False := eq_false (by omega)
  have q97 : (0 ≤ a) = True := eq_true (by omega)
  have p98 : ((rs.length : Int) ≤ a) = False := eq_false (by omega)
  have q98 : (a < (rs.length : Int)) = True := eq_true (by omega)
  have p99 : (b < 0) = False := eq_false (by omega)
  have q99 : (0 ≤ b) = True := eq_true (by omega)
  have p100 : ((rs.length : Int) ≤ b) = False := eq_false (by omega)
  have q100 : (b < (rs.length : Int)) = True := eq_true (by omega)
  have p101 : (k = 3) = False := eq_false (by omega)
  have q101 : (k == 3) = false := beq_eq_false_iff_ne.mpr (by omega)
  have r101 : (k != 3) = true := by rw [bne, q101]; rfl
  have p102 : (n = 0) = False := eq_false (by omega)
  have q102 : (n == 0) = false := beq_eq_false_iff_ne.mpr (by omega)
  have r102 : (n != 0) = true := by rw [bne, q102]; rfl
  clear h
  go_enter Try.func21, Try.ntmps21
  go_wp2_with (first | ((with_reducible refine gate_dst (N := 2) rfl ?_); refine box_event ?hg (N := 2) ?hd (cs := #[.int .i64 k, .int .i64 a, .int .i64 i, .int .i64 b, .int .i64 j, .int .i64 n]) (t := 29) ?hr ?_; (case hd => rfl); (case hg => rfl); (case hr => first | (go_simp; done) | (go_simp; rfl)); intro gm hg_ wv hbox hb; have BM := Aside0.mk hbox; have GM := Aside0.mk (Nat.le_of_eq hg_.symm); have NG := Aside0.mk (show g < gm by rw [hg_]; exact RT.lt HT.out); replace HB := Aside0.mk (below_step HB.out hb); replace HT := Aside0.mk (RT.below HT.out hb); clear hb hbox hg_; have hm0 : wv.cell? ⟨gm, 0, none⟩ = some (.int .i64 k) := (blk_cell BM.out 0).trans rfl; have hm1 : wv.cell? ⟨gm, 1, none⟩ = some (.int .i64 a) := (blk_cell BM.out 1).trans rfl; have hm3 : wv.cell? ⟨gm, 3, none⟩ = some (.int .i64 b) := (blk_cell BM.out 3).trans rfl; have hm5 : wv.cell? ⟨gm, 5, none⟩ = some (.int .i64 n) := (blk_cell BM.out 5).trans rfl))
  first | go_ret | go_ret2
  exact ⟨_, rfl, HB.out, HT.out⟩
set_option maxHeartbeats 8000000 in
set_option maxRecDepth 100000 in
theorem do_k1 (W0 : World) (g cap : Nat) (rs : List Rt) (svs : List (Option Addr × Nat)) (k a i b j n : Int) (w : World) (hb : Below W0.heap.size W0 w) (hT : RT w W0.heap.size g cap rs svs) (hm : ∀ j, (st rs j).length ≤ 1000000) (h : (0 ≤ a ∧ a < (rs.length : Int)) ∧ (0 ≤ b ∧ b < (rs.length : Int)) ∧ k = 1 ∧ n = 0) : Calls Try.prog 21 #[.agg #[.int .i64 k, .int .i64 a, .int .i64 i, .int .i64 b, .int .i64 j, .int .i64 n], .slice (some ⟨g, 0, none⟩) rs.length cap] w fun e w' => ∃ svs', e = .returned (.bool (doS rs k a i b j n).1) ∧ Below W0.heap.size W0 w' ∧ RT w' W0.heap.size g cap (doS rs k a i b j n).2 svs' := by
  have HB := Aside0.mk hb
  have HT := Aside0.mk hT
  have HM := Aside0.mk hm
  clear hb hT hm
  have HR := Aside0.mk (show chS rs a b i j 1 = doS rs k a i b j n by unfold doS; rw [if_pos (by omega), if_pos (show k = 1 by omega)])
  rw [← HR.out]
  have HAA := Aside0.mk (show (0 ≤ a ∧ a < (rs.length : Int)) by omega)
  have HBB := Aside0.mk (show (0 ≤ b ∧ b < (rs.length : Int)) by omega)
  have p103 : (a < 0) = False := eq_false (by omega)
  have q103 : (0 ≤ a) = True := eq_true (by omega)
  have p104 : ((rs.length : Int) ≤ a) = False := eq_false (by omega)
  have q104 : (a < (rs.length : Int)) = True := eq_true (by omega)
  have p105 : (b < 0) = False := eq_false (by omega)
  have q105 : (0 ≤ b) = True := eq_true (by omega)
  have p106 : ((rs.length : Int) ≤ b) = False := eq_false (by omega)
  have q106 : (b < (rs.length : Int)) = True := eq_true (by omega)
  have p107 : (k = 1) = True := eq_true (by omega)
  have q107 : (k == 1) = true := beq_iff_eq.mpr (by omega)
  have r107 : (k != 1) = false := by rw [bne, q107]; rfl
  have p108 : (k = 2) = False := eq_false (by omega)
  have q108 : (k == 2) = false := beq_eq_false_iff_ne.mpr (by omega)
  have r108 : (k != 2) = true := by rw [bne, q108]; rfl
  have p109 : (k = 3) = False := eq_false (by omega)
  have q109 : (k == 3) = false := beq_eq_false_iff_ne.mpr (by omega)
  have r109 : (k != 3) = true := by rw [bne, q109]; rfl
  have p110 : (k = 4) = False := eq_false (by omega)
  have q110 : (k == 4) = false := beq_eq_false_iff_ne.mpr (by omega)
  have r110 : (k != 4) = true := by rw [bne, q110]; rfl
  have p111 : (k = 5) = False := eq_false (by omega)
  have q111 : (k == 5) = false := beq_eq_false_iff_ne.mpr (by omega)
  have r111 : (k != 5) = true := by rw [bne, q111]; rfl
  have p112 : (n = 0) = True := eq_true (by omega)
  have q112 : (n == 0) = true := beq_iff_eq.mpr (by omega)
  have r112 : (n != 0) = false := by rw [bne, q112]; rfl
  clear h
  go_enter Try.func21, Try.ntmps21
  go_wp2_with (first | ((with_reducible refine gate_dst (N := 2) rfl ?_); refine box_event ?hg (N := 2) ?hd (cs := #[.int .i64 k, .int .i64 a, .int .i64 i, .int .i64 b, .int .i64 j, .int .i64 n]) (t := 29) ?hr ?_; (case hd => rfl); (case hg => rfl); (case hr => first | (go_simp; done) | (go_simp; rfl)); intro gm hg_ wv hbox hb; have BM := Aside0.mk hbox; have GM := Aside0.mk (Nat.le_of_eq hg_.symm); have NG := Aside0.mk (show g < gm by rw [hg_]; exact RT.lt HT.out); replace HB := Aside0.mk (below_step HB.out hb); replace HT := Aside0.mk (RT.below HT.out hb); clear hb hbox hg_; have hm0 : wv.cell? ⟨gm, 0, none⟩ = some (.int .i64 k) := (blk_cell BM.out 0).trans rfl; have hm1 : wv.cell? ⟨gm, 1, none⟩ = some (.int .i64 a) := (blk_cell BM.out 1).trans rfl; have hm3 : wv.cell? ⟨gm, 3, none⟩ = some (.int .i64 b) := (blk_cell BM.out 3).trans rfl; have hm5 : wv.cell? ⟨gm, 5, none⟩ = some (.int .i64 n) := (blk_cell BM.out 5).trans rfl) | ((with_reducible refine gate_dst (N := 41) rfl ?_); refine wpList_load_row rfl 29 (.tmp 2) rfl gm rfl 29 #[.int .i64 k, .int .i64 a, .int .i64 i, .int .i64 b, .int .i64 j, .int .i64 n] (0, 0) _ BM.out Try.underlying29 rfl (by kernel_rfl) ?_) | (go_at_call 29; (with_reducible refine (ch_ W0 g cap rs svs k a i b j n _ HB.out HT.out 1 (by decide) (by decide) HM.out HAA.out.1 HAA.out.2 HBB.out.1 HBB.out.2).mono ?_); rintro e wv ⟨svs2, rfl, hb, hT⟩; replace HB := Aside0.mk hb; replace HT := Aside0.mk hT; clear hb hT BM))
  first | go_ret | go_ret2
  exact ⟨_, rfl, HB.out, HT.out⟩
set_option maxHeartbeats 8000000 in
set_option maxRecDepth 100000 in
theorem do_k2 (W0 : World) (g cap : Nat) (rs : List Rt) (svs : List (Option Addr × Nat)) (k a i b j n : Int) (w : World) (hb : Below W0.heap.size W0 w) (hT : RT w W0.heap.size g cap rs svs) (hm : ∀ j, (st rs j).length ≤ 1000000) (h : (0 ≤ a ∧ a < (rs.length : Int)) ∧ (0 ≤ b ∧ b < (rs.length : Int)) ∧ k = 2 ∧ n = 0) : Calls Try.prog 21 #[.agg #[.int .i64 k, .int .i64 a, .int .i64 i, .int .i64 b, .int .i64 j, .int .i64 n], .slice (some ⟨g, 0, none⟩) rs.length cap] w fun e w' => ∃ svs', e = .returned (.bool (doS rs k a i b j n).1) ∧ Below W0.heap.size W0 w' ∧ RT w' W0.heap.size g cap (doS rs k a i b j n).2 svs' := by
  have HB := Aside0.mk hb
  have HT := Aside0.mk hT
  have HM := Aside0.mk hm
  clear hb hT hm
  have HR := Aside0.mk (show exS rs a b i j = doS rs k a i b j n by unfold doS; rw [if_pos (by omega), if_neg (show ¬ k = 1 by omega), if_pos (show k = 2 by omega)])
  rw [← HR.out]
  have HAA := Aside0.mk (show (0 ≤ a ∧ a < (rs.length : Int)) by omega)
  have HBB := Aside0.mk (show (0 ≤ b ∧ b < (rs.length : Int)) by omega)
  have p113 : (a < 0) = False := eq_false (by omega)
  have q113 : (0 ≤ a) = True := eq_true (by omega)
  have p114 : ((rs.length : Int) ≤ a) = False := eq_false (by omega)
  have q114 : (a < (rs.length : Int)) = True := eq_true (by omega)
  have p115 : (b < 0) = False := eq_false (by omega)
  have q115 : (0 ≤ b) = True := eq_true (by omega)
  have p116 : ((rs.length : Int) ≤ b) = False := eq_false (by omega)
  have q116 : (b < (rs.length : Int)) = True := eq_true (by omega)
  have p117 : (k = 1) = False := eq_false (by omega)
  have q117 : (k == 1) = false := beq_eq_false_iff_ne.mpr (by omega)
  have r117 : (k != 1) = true := by rw [bne, q117]; rfl
  have p118 : (k = 2) = True := eq_true (by omega)
  have q118 : (k == 2) = true := beq_iff_eq.mpr (by omega)
  have r118 : (k != 2) = false := by rw [bne, q118]; rfl
  have p119 : (k = 3) = False := eq_false (by omega)
  have q119 : (k == 3) = false := beq_eq_false_iff_ne.mpr (by omega)
  have r119 : (k != 3) = true := by rw [bne, q119]; rfl
  have p120 : (k = 4) = False := eq_false (by omega)
  have q120 : (k == 4) = false := beq_eq_false_iff_ne.mpr (by omega)
  have r120 : (k != 4) = true := by rw [bne, q120]; rfl
  have p121 : (k = 5) = False := eq_false (by omega)
  have q121 : (k == 5) = false := beq_eq_false_iff_ne.mpr (by omega)
  have r121 : (k != 5) = true := by rw [bne, q121]; rfl
  have p122 : (n = 0) = True := eq_true (by omega)
  have q122 : (n == 0) = true := beq_iff_eq.mpr (by omega)
  have r122 : (n != 0) = false := by rw [bne, q122]; rfl
  clear h
  go_enter Try.func21, Try.ntmps21
  go_wp2_with (first | ((with_reducible refine gate_dst (N := 2) rfl ?_); refine box_event ?hg (N := 2) ?hd (cs := #[.int .i64 k, .int .i64 a, .int .i64 i, .int .i64 b, .int .i64 j, .int .i64 n]) (t := 29) ?hr ?_; (case hd => rfl); (case hg => rfl); (case hr => first | (go_simp; done) | (go_simp; rfl)); intro gm hg_ wv hbox hb; have BM := Aside0.mk hbox; have GM := Aside0.mk (Nat.le_of_eq hg_.symm); have NG := Aside0.mk (show g < gm by rw [hg_]; exact RT.lt HT.out); replace HB := Aside0.mk (below_step HB.out hb); replace HT := Aside0.mk (RT.below HT.out hb); clear hb hbox hg_; have hm0 : wv.cell? ⟨gm, 0, none⟩ = some (.int .i64 k) := (blk_cell BM.out 0).trans rfl; have hm1 : wv.cell? ⟨gm, 1, none⟩ = some (.int .i64 a) := (blk_cell BM.out 1).trans rfl; have hm3 : wv.cell? ⟨gm, 3, none⟩ = some (.int .i64 b) := (blk_cell BM.out 3).trans rfl; have hm5 : wv.cell? ⟨gm, 5, none⟩ = some (.int .i64 n) := (blk_cell BM.out 5).trans rfl) | ((with_reducible refine gate_dst (N := 46) rfl ?_); refine wpList_load_row rfl 29 (.tmp 2) rfl gm rfl 29 #[.int .i64 k, .int .i64 a, .int .i64 i, .int .i64 b, .int .i64 j, .int .i64 n] (0, 0) _ BM.out Try.underlying29 rfl (by kernel_rfl) ?_) | (go_at_call 30; (with_reducible refine (ex_ W0 g cap rs svs k a i b j n _ HB.out HT.out HAA.out.1 HAA.out.2 HBB.out.1 HBB.out.2).mono ?_); rintro e wv ⟨svs2, rfl, hb, hT⟩; replace HB := Aside0.mk hb; replace HT := Aside0.mk hT; clear hb hT BM))
  first | go_ret | go_ret2
  exact ⟨_, rfl, HB.out, HT.out⟩
set_option maxHeartbeats 8000000 in
set_option maxRecDepth 100000 in
theorem do_k4 (W0 : World) (g cap : Nat) (rs : List Rt) (svs : List (Option Addr × Nat)) (k a i b j n : Int) (w : World) (hb : Below W0.heap.size W0 w) (hT : RT w W0.heap.size g cap rs svs) (hm : ∀ j, (st rs j).length ≤ 1000000) (h : (0 ≤ a ∧ a < (rs.length : Int)) ∧ (0 ≤ b ∧ b < (rs.length : Int)) ∧ k = 4 ∧ n = 0) : Calls Try.prog 21 #[.agg #[.int .i64 k, .int .i64 a, .int .i64 i, .int .i64 b, .int .i64 j, .int .i64 n], .slice (some ⟨g, 0, none⟩) rs.length cap] w fun e w' => ∃ svs', e = .returned (.bool (doS rs k a i b j n).1) ∧ Below W0.heap.size W0 w' ∧ RT w' W0.heap.size g cap (doS rs k a i b j n).2 svs' := by
  have HB := Aside0.mk hb
  have HT := Aside0.mk hT
  have HM := Aside0.mk hm
  clear hb hT hm
  have HR := Aside0.mk (show taS rs a b i j = doS rs k a i b j n by unfold doS; rw [if_pos (by omega), if_neg (show ¬ k = 1 by omega), if_neg (show ¬ k = 2 by omega), if_neg (show ¬ k = 3 by omega), if_pos (show k = 4 by omega)])
  rw [← HR.out]
  have HAA := Aside0.mk (show (0 ≤ a ∧ a < (rs.length : Int)) by omega)
  have HBB := Aside0.mk (show (0 ≤ b ∧ b < (rs.length : Int)) by omega)
  have p123 : (a < 0) = False := eq_false (by omega)
  have q123 : (0 ≤ a) = True := eq_true (by omega)
  have p124 : ((rs.length : Int) ≤ a) = False := eq_false (by omega)
  have q124 : (a < (rs.length : Int)) = True := eq_true (by omega)
  have p125 : (b < 0) = False := eq_false (by omega)
  have q125 : (0 ≤ b) = True := eq_true (by omega)
  have p126 : ((rs.length : Int) ≤ b) = False := eq_false (by omega)
  have q126 : (b < (rs.length : Int)) = True := eq_true (by omega)
  have p127 : (k = 1) = False := eq_false (by omega)
  have q127 : (k == 1) = false := beq_eq_false_iff_ne.mpr (by omega)
  have r127 : (k != 1) = true := by rw [bne, q127]; rfl
  have p128 : (k = 2) = False := eq_false (by omega)
  have q128 : (k == 2) = false := beq_eq_false_iff_ne.mpr (by omega)
  have r128 : (k != 2) = true := by rw [bne, q128]; rfl
  have p129 : (k = 3) = False := eq_false (by omega)
  have q129 : (k == 3) = false := beq_eq_false_iff_ne.mpr (by omega)
  have r129 : (k != 3) = true := by rw [bne, q129]; rfl
  have p130 : (k = 4) = True := eq_true (by omega)
  have q130 : (k == 4) = true := beq_iff_eq.mpr (by omega)
  have r130 : (k != 4) = false := by rw [bne, q130]; rfl
  have p131 : (k = 5) = False := eq_false (by omega)
  have q131 : (k == 5) = false := beq_eq_false_iff_ne.mpr (by omega)
  have r131 : (k != 5) = true := by rw [bne, q131]; rfl
  have p132 : (n = 0) = True := eq_true (by omega)
  have q132 : (n == 0) = true := beq_iff_eq.mpr (by omega)
  have r132 : (n != 0) = false := by rw [bne, q132]; rfl
  clear h
  go_enter Try.func21, Try.ntmps21
  go_wp2_with (first | ((with_reducible refine gate_dst (N := 2) rfl ?_); refine box_event ?hg (N := 2) ?hd (cs := #[.int .i64 k, .int .i64 a, .int .i64 i, .int .i64 b, .int .i64 j, .int .i64 n]) (t := 29) ?hr ?_; (case hd => rfl); (case hg => rfl); (case hr => first | (go_simp; done) | (go_simp; rfl)); intro gm hg_ wv hbox hb; have BM := Aside0.mk hbox; have GM := Aside0.mk (Nat.le_of_eq hg_.symm); have NG := Aside0.mk (show g < gm by rw [hg_]; exact RT.lt HT.out); replace HB := Aside0.mk (below_step HB.out hb); replace HT := Aside0.mk (RT.below HT.out hb); clear hb hbox hg_; have hm0 : wv.cell? ⟨gm, 0, none⟩ = some (.int .i64 k) := (blk_cell BM.out 0).trans rfl; have hm1 : wv.cell? ⟨gm, 1, none⟩ = some (.int .i64 a) := (blk_cell BM.out 1).trans rfl; have hm3 : wv.cell? ⟨gm, 3, none⟩ = some (.int .i64 b) := (blk_cell BM.out 3).trans rfl; have hm5 : wv.cell? ⟨gm, 5, none⟩ = some (.int .i64 n) := (blk_cell BM.out 5).trans rfl) | ((with_reducible refine gate_dst (N := 68) rfl ?_); refine wpList_load_row rfl 29 (.tmp 2) rfl gm rfl 29 #[.int .i64 k, .int .i64 a, .int .i64 i, .int .i64 b, .int .i64 j, .int .i64 n] (0, 0) _ BM.out Try.underlying29 rfl (by kernel_rfl) ?_) | (go_at_call 31; (with_reducible refine (ta_ W0 g cap rs svs k a i b j n _ HB.out HT.out HAA.out.1 HAA.out.2 HBB.out.1 HBB.out.2 HM.out).mono ?_); rintro e wv ⟨svs2, rfl, hb, hT⟩; replace HB := Aside0.mk hb; replace HT := Aside0.mk hT; clear hb hT BM))
  first | go_ret | go_ret2
  exact ⟨_, rfl, HB.out, HT.out⟩
set_option maxHeartbeats 8000000 in
set_option maxRecDepth 100000 in
theorem do_k5 (W0 : World) (g cap : Nat) (rs : List Rt) (svs : List (Option Addr × Nat)) (k a i b j n : Int) (w : World) (hb : Below W0.heap.size W0 w) (hT : RT w W0.heap.size g cap rs svs) (hm : ∀ j, (st rs j).length ≤ 1000000) (h : (0 ≤ a ∧ a < (rs.length : Int)) ∧ (0 ≤ b ∧ b < (rs.length : Int)) ∧ k = 5 ∧ n = 0) : Calls Try.prog 21 #[.agg #[.int .i64 k, .int .i64 a, .int .i64 i, .int .i64 b, .int .i64 j, .int .i64 n], .slice (some ⟨g, 0, none⟩) rs.length cap] w fun e w' => ∃ svs', e = .returned (.bool (doS rs k a i b j n).1) ∧ Below W0.heap.size W0 w' ∧ RT w' W0.heap.size g cap (doS rs k a i b j n).2 svs' := by
  have HB := Aside0.mk hb
  have HT := Aside0.mk hT
  have HM := Aside0.mk hm
  clear hb hT hm
  have HR := Aside0.mk (show turnS rs a b i j = doS rs k a i b j n by unfold doS; rw [if_pos (by omega), if_neg (show ¬ k = 1 by omega), if_neg (show ¬ k = 2 by omega), if_neg (show ¬ k = 3 by omega), if_neg (show ¬ k = 4 by omega), if_pos (show k = 5 by omega)])
  rw [← HR.out]
  have HAA := Aside0.mk (show (0 ≤ a ∧ a < (rs.length : Int)) by omega)
  have HBB := Aside0.mk (show (0 ≤ b ∧ b < (rs.length : Int)) by omega)
  have p133 : (a < 0) = False := eq_false (by omega)
  have q133 : (0 ≤ a) = True := eq_true (by omega)
  have p134 : ((rs.length : Int) ≤ a) = False := eq_false (by omega)
  have q134 : (a < (rs.length : Int)) = True := eq_true (by omega)
  have p135 : (b < 0) = False := eq_false (by omega)
  have q135 : (0 ≤ b) = True := eq_true (by omega)
  have p136 : ((rs.length : Int) ≤ b) = False := eq_false (by omega)
  have q136 : (b < (rs.length : Int)) = True := eq_true (by omega)
  have p137 : (k = 1) = False := eq_false (by omega)
  have q137 : (k == 1) = false := beq_eq_false_iff_ne.mpr (by omega)
  have r137 : (k != 1) = true := by rw [bne, q137]; rfl
  have p138 : (k = 2) = False := eq_false (by omega)
  have q138 : (k == 2) = false := beq_eq_false_iff_ne.mpr (by omega)
  have r138 : (k != 2) = true := by rw [bne, q138]; rfl
  have p139 : (k = 3) = False := eq_false (by omega)
  have q139 : (k == 3) = false := beq_eq_false_iff_ne.mpr (by omega)
  have r139 : (k != 3) = true := by rw [bne, q139]; rfl
  have p140 : (k = 4) = False := eq_false (by omega)
  have q140 : (k == 4) = false := beq_eq_false_iff_ne.mpr (by omega)
  have r140 : (k != 4) = true := by rw [bne, q140]; rfl
  have p141 : (k = 5) = True := eq_true (by omega)
  have q141 : (k == 5) = true := beq_iff_eq.mpr (by omega)
  have r141 : (k != 5) = false := by rw [bne, q141]; rfl
  have p142 : (n = 0) = True := eq_true (by omega)
  have q142 : (n == 0) = true := beq_iff_eq.mpr (by omega)
  have r142 : (n != 0) = false := by rw [bne, q142]; rfl
  clear h
  go_enter Try.func21, Try.ntmps21
  go_wp2_with (first | ((with_reducible refine gate_dst (N := 2) rfl ?_); refine box_event ?hg (N := 2) ?hd (cs := #[.int .i64 k, .int .i64 a, .int .i64 i, .int .i64 b, .int .i64 j, .int .i64 n]) (t := 29) ?hr ?_; (case hd => rfl); (case hg => rfl); (case hr => first | (go_simp; done) | (go_simp; rfl)); intro gm hg_ wv hbox hb; have BM := Aside0.mk hbox; have GM := Aside0.mk (Nat.le_of_eq hg_.symm); have NG := Aside0.mk (show g < gm by rw [hg_]; exact RT.lt HT.out); replace HB := Aside0.mk (below_step HB.out hb); replace HT := Aside0.mk (RT.below HT.out hb); clear hb hbox hg_; have hm0 : wv.cell? ⟨gm, 0, none⟩ = some (.int .i64 k) := (blk_cell BM.out 0).trans rfl; have hm1 : wv.cell? ⟨gm, 1, none⟩ = some (.int .i64 a) := (blk_cell BM.out 1).trans rfl; have hm3 : wv.cell? ⟨gm, 3, none⟩ = some (.int .i64 b) := (blk_cell BM.out 3).trans rfl; have hm5 : wv.cell? ⟨gm, 5, none⟩ = some (.int .i64 n) := (blk_cell BM.out 5).trans rfl) | ((with_reducible refine gate_dst (N := 73) rfl ?_); refine wpList_load_row rfl 29 (.tmp 2) rfl gm rfl 29 #[.int .i64 k, .int .i64 a, .int .i64 i, .int .i64 b, .int .i64 j, .int .i64 n] (0, 0) _ BM.out Try.underlying29 rfl (by kernel_rfl) ?_) | (go_at_call 32; (with_reducible refine (turn_ W0 g cap rs svs k a i b j n _ HB.out HT.out HAA.out.1 HAA.out.2 HBB.out.1 HBB.out.2).mono ?_); rintro e wv ⟨svs2, rfl, hb, hT⟩; replace HB := Aside0.mk hb; replace HT := Aside0.mk hT; clear hb hT BM))
  first | go_ret | go_ret2
  exact ⟨_, rfl, HB.out, HT.out⟩
set_option maxHeartbeats 8000000 in
set_option maxRecDepth 100000 in
theorem do_k3 (W0 : World) (g cap : Nat) (rs : List Rt) (svs : List (Option Addr × Nat)) (k a i b j n : Int) (w : World) (hb : Below W0.heap.size W0 w) (hT : RT w W0.heap.size g cap rs svs) (hm : ∀ j, (st rs j).length ≤ 1000000) (h : (0 ≤ a ∧ a < (rs.length : Int)) ∧ (0 ≤ b ∧ b < (rs.length : Int)) ∧ k = 3 ∧ 2 ≤ n ∧ n ≤ 3) : Calls Try.prog 21 #[.agg #[.int .i64 k, .int .i64 a, .int .i64 i, .int .i64 b, .int .i64 j, .int .i64 n], .slice (some ⟨g, 0, none⟩) rs.length cap] w fun e w' => ∃ svs', e = .returned (.bool (doS rs k a i b j n).1) ∧ Below W0.heap.size W0 w' ∧ RT w' W0.heap.size g cap (doS rs k a i b j n).2 svs' := by
  have HB := Aside0.mk hb
  have HT := Aside0.mk hT
  have HM := Aside0.mk hm
  clear hb hT hm
  have HR := Aside0.mk (show chS rs a b i j n = doS rs k a i b j n by unfold doS; rw [if_pos (by omega), if_neg (show ¬ k = 1 by omega), if_neg (show ¬ k = 2 by omega), if_pos (show k = 3 by omega), if_pos (show 2 ≤ n ∧ n ≤ 3 by omega)])
  rw [← HR.out]
  have HAA := Aside0.mk (show (0 ≤ a ∧ a < (rs.length : Int)) by omega)
  have HBB := Aside0.mk (show (0 ≤ b ∧ b < (rs.length : Int)) by omega)
  have HN3 := Aside0.mk (show 2 ≤ n ∧ n ≤ 3 by omega)
  have p143 : (a < 0) = False := eq_false (by omega)
  have q143 : (0 ≤ a) = True := eq_true (by omega)
  have p144 : ((rs.length : Int) ≤ a) = False := eq_false (by omega)
  have q144 : (a < (rs.length : Int)) = True := eq_true (by omega)
  have p145 : (b < 0) = False := eq_false (by omega)
  have q145 : (0 ≤ b) = True := eq_true (by omega)
  have p146 : ((rs.length : Int) ≤ b) = False := eq_false (by omega)
  have q146 : (b < (rs.length : Int)) = True := eq_true (by omega)
  have p147 : (k = 1) = False := eq_false (by omega)
  have q147 : (k == 1) = false := beq_eq_false_iff_ne.mpr (by omega)
  have r147 : (k != 1) = true := by rw [bne, q147]; rfl
  have p148 : (k = 2) = False := eq_false (by omega)
  have q148 : (k == 2) = false := beq_eq_false_iff_ne.mpr (by omega)
  have r148 : (k != 2) = true := by rw [bne, q148]; rfl
  have p149 : (k = 3) = True := eq_true (by omega)
  have q149 : (k == 3) = true := beq_iff_eq.mpr (by omega)
  have r149 : (k != 3) = false := by rw [bne, q149]; rfl
  have p150 : (k = 4) = False := eq_false (by omega)
  have q150 : (k == 4) = false := beq_eq_false_iff_ne.mpr (by omega)
  have r150 : (k != 4) = true := by rw [bne, q150]; rfl
  have p151 : (k = 5) = False := eq_false (by omega)
  have q151 : (k == 5) = false := beq_eq_false_iff_ne.mpr (by omega)
  have r151 : (k != 5) = true := by rw [bne, q151]; rfl
  have p152 : (2 ≤ n) = True := eq_true (by omega)
  have q152 : (n < 2) = False := eq_false (by omega)
  have p153 : (n ≤ 3) = True := eq_true (by omega)
  have q153 : (3 < n) = False := eq_false (by omega)
  clear h
  go_enter Try.func21, Try.ntmps21
  go_wp2_with (first | ((with_reducible refine gate_dst (N := 2) rfl ?_); refine box_event ?hg (N := 2) ?hd (cs := #[.int .i64 k, .int .i64 a, .int .i64 i, .int .i64 b, .int .i64 j, .int .i64 n]) (t := 29) ?hr ?_; (case hd => rfl); (case hg => rfl); (case hr => first | (go_simp; done) | (go_simp; rfl)); intro gm hg_ wv hbox hb; have BM := Aside0.mk hbox; have GM := Aside0.mk (Nat.le_of_eq hg_.symm); have NG := Aside0.mk (show g < gm by rw [hg_]; exact RT.lt HT.out); replace HB := Aside0.mk (below_step HB.out hb); replace HT := Aside0.mk (RT.below HT.out hb); clear hb hbox hg_; have hm0 : wv.cell? ⟨gm, 0, none⟩ = some (.int .i64 k) := (blk_cell BM.out 0).trans rfl; have hm1 : wv.cell? ⟨gm, 1, none⟩ = some (.int .i64 a) := (blk_cell BM.out 1).trans rfl; have hm2 : wv.cell? ⟨gm, 2, none⟩ = some (.int .i64 i) := (blk_cell BM.out 2).trans rfl; have hm3 : wv.cell? ⟨gm, 3, none⟩ = some (.int .i64 b) := (blk_cell BM.out 3).trans rfl; have hm4 : wv.cell? ⟨gm, 4, none⟩ = some (.int .i64 j) := (blk_cell BM.out 4).trans rfl; have hm5 : wv.cell? ⟨gm, 5, none⟩ = some (.int .i64 n) := (blk_cell BM.out 5).trans rfl) | (go_at_call 29; (with_reducible refine (ch_ W0 g cap rs svs k a i b j n _ HB.out HT.out n (by have := HN3.out; omega) (by have := HN3.out; omega) HM.out HAA.out.1 HAA.out.2 HBB.out.1 HBB.out.2).mono ?_); rintro e wv ⟨svs2, rfl, hb, hT⟩; replace HB := Aside0.mk hb; replace HT := Aside0.mk hT; clear hb hT BM))
  first | go_ret | go_ret2
  exact ⟨_, rfl, HB.out, HT.out⟩
set_option maxHeartbeats 8000000 in
set_option maxRecDepth 100000 in
theorem do_k3a (W0 : World) (g cap : Nat) (rs : List Rt) (svs : List (Option Addr × Nat)) (k a i b j n : Int) (w : World) (hb : Below W0.heap.size W0 w) (hT : RT w W0.heap.size g cap rs svs) (hm : ∀ j, (st rs j).length ≤ 1000000) (h : (0 ≤ a ∧ a < (rs.length : Int)) ∧ (0 ≤ b ∧ b < (rs.length : Int)) ∧ k = 3 ∧ n < 2) : Calls Try.prog 21 #[.agg #[.int .i64 k, .int .i64 a, .int .i64 i, .int .i64 b, .int .i64 j, .int .i64 n], .slice (some ⟨g, 0, none⟩) rs.length cap] w fun e w' => ∃ svs', e = .returned (.bool (doS rs k a i b j n).1) ∧ Below W0.heap.size W0 w' ∧ RT w' W0.heap.size g cap (doS rs k a i b j n).2 svs' := by
  have HB := Aside0.mk hb
  have HT := Aside0.mk hT
  have HM := Aside0.mk hm
  clear hb hT hm
  have HR := Aside0.mk (show (false, rs) = doS rs k a i b j n by unfold doS; rw [if_pos (by omega), if_neg (show ¬ k = 1 by omega), if_neg (show ¬ k = 2 by omega), if_pos (show k = 3 by omega), if_neg (show ¬ (2 ≤ n ∧ n ≤ 3) by omega)])
  rw [← HR.out]
  have p154 : (a < 0) = False := eq_false (by omega)
  have q154 : (0 ≤ a) = True := eq_true (by omega)
  have p155 : ((rs.length : Int) ≤ a) = False := eq_false (by omega)
  have q155 : (a < (rs.length : Int)) = True := eq_true (by omega)
  have p156 : (b < 0) = False := eq_false (by omega)
  have q156 : (0 ≤ b) = True := eq_true (by omega)
  have p157 : ((rs.length : Int) ≤ b) = False := eq_false (by omega)
  have q157 : (b < (rs.length : Int)) = True := eq_true (by omega)
  have p158 : (k = 1) = False := eq_false (by omega)
  have q158 : (k == 1) = false := beq_eq_false_iff_ne.mpr (by omega)
  have r158 : (k != 1) = true := by rw [bne, q158]; rfl
  have p159 : (k = 2) = False := eq_false (by omega)
  have q159 : (k == 2) = false := beq_eq_false_iff_ne.mpr (by omega)
  have r159 : (k != 2) = true := by rw [bne, q159]; rfl
  have p160 : (k = 3) = True := eq_true (by omega)
  have q160 : (k == 3) = true := beq_iff_eq.mpr (by omega)
  have r160 : (k != 3) = false := by rw [bne, q160]; rfl
  have p161 : (k = 4) = False := eq_false (by omega)
  have q161 : (k == 4) = false := beq_eq_false_iff_ne.mpr (by omega)
  have r161 : (k != 4) = true := by rw [bne, q161]; rfl
  have p162 : (k = 5) = False := eq_false (by omega)
  have q162 : (k == 5) = false := beq_eq_false_iff_ne.mpr (by omega)
  have r162 : (k != 5) = true := by rw [bne, q162]; rfl
  have p163 : (2 ≤ n) = False := eq_false (by omega)
  have q163 : (n < 2) = True := eq_true (by omega)
  clear h
  go_enter Try.func21, Try.ntmps21
  go_wp2_with (first | ((with_reducible refine gate_dst (N := 2) rfl ?_); refine box_event ?hg (N := 2) ?hd (cs := #[.int .i64 k, .int .i64 a, .int .i64 i, .int .i64 b, .int .i64 j, .int .i64 n]) (t := 29) ?hr ?_; (case hd => rfl); (case hg => rfl); (case hr => first | (go_simp; done) | (go_simp; rfl)); intro gm hg_ wv hbox hb; have BM := Aside0.mk hbox; have GM := Aside0.mk (Nat.le_of_eq hg_.symm); have NG := Aside0.mk (show g < gm by rw [hg_]; exact RT.lt HT.out); replace HB := Aside0.mk (below_step HB.out hb); replace HT := Aside0.mk (RT.below HT.out hb); clear hb hbox hg_; have hm0 : wv.cell? ⟨gm, 0, none⟩ = some (.int .i64 k) := (blk_cell BM.out 0).trans rfl; have hm1 : wv.cell? ⟨gm, 1, none⟩ = some (.int .i64 a) := (blk_cell BM.out 1).trans rfl; have hm3 : wv.cell? ⟨gm, 3, none⟩ = some (.int .i64 b) := (blk_cell BM.out 3).trans rfl; have hm5 : wv.cell? ⟨gm, 5, none⟩ = some (.int .i64 n) := (blk_cell BM.out 5).trans rfl))
  first | go_ret | go_ret2
  exact ⟨_, rfl, HB.out, HT.out⟩
set_option maxHeartbeats 8000000 in
set_option maxRecDepth 100000 in
theorem do_k3b (W0 : World) (g cap : Nat) (rs : List Rt) (svs : List (Option Addr × Nat)) (k a i b j n : Int) (w : World) (hb : Below W0.heap.size W0 w) (hT : RT w W0.heap.size g cap rs svs) (hm : ∀ j, (st rs j).length ≤ 1000000) (h : (0 ≤ a ∧ a < (rs.length : Int)) ∧ (0 ≤ b ∧ b < (rs.length : Int)) ∧ k = 3 ∧ 3 < n) : Calls Try.prog 21 #[.agg #[.int .i64 k, .int .i64 a, .int .i64 i, .int .i64 b, .int .i64 j, .int .i64 n], .slice (some ⟨g, 0, none⟩) rs.length cap] w fun e w' => ∃ svs', e = .returned (.bool (doS rs k a i b j n).1) ∧ Below W0.heap.size W0 w' ∧ RT w' W0.heap.size g cap (doS rs k a i b j n).2 svs' := by
  have HB := Aside0.mk hb
  have HT := Aside0.mk hT
  have HM := Aside0.mk hm
  clear hb hT hm
  have HR := Aside0.mk (show (false, rs) = doS rs k a i b j n by unfold doS; rw [if_pos (by omega), if_neg (show ¬ k = 1 by omega), if_neg (show ¬ k = 2 by omega), if_pos (show k = 3 by omega), if_neg (show ¬ (2 ≤ n ∧ n ≤ 3) by omega)])
  rw [← HR.out]
  have p164 : (a < 0) = False := eq_false (by omega)
  have q164 : (0 ≤ a) = True := eq_true (by omega)
  have p165 : ((rs.length : Int) ≤ a) = False := eq_false (by omega)
  have q165 : (a < (rs.length : Int)) = True := eq_true (by omega)
  have p166 : (b < 0) = False := eq_false (by omega)
  have q166 : (0 ≤ b) = True := eq_true (by omega)
  have p167 : ((rs.length : Int) ≤ b) = False := eq_false (by omega)
  have q167 : (b < (rs.length : Int)) = True := eq_true (by omega)
  have p168 : (k = 1) = False := eq_false (by omega)
  have q168 : (k == 1) = false := beq_eq_false_iff_ne.mpr (by omega)
  have r168 : (k != 1) = true := by rw [bne, q168]; rfl
  have p169 : (k = 2) = False := eq_false (by omega)
  have q169 : (k == 2) = false := beq_eq_false_iff_ne.mpr (by omega)
  have r169 : (k != 2) = true := by rw [bne, q169]; rfl
  have p170 : (k = 3) = True := eq_true (by omega)
  have q170 : (k == 3) = true := beq_iff_eq.mpr (by omega)
  have r170 : (k != 3) = false := by rw [bne, q170]; rfl
  have p171 : (k = 4) = False := eq_false (by omega)
  have q171 : (k == 4) = false := beq_eq_false_iff_ne.mpr (by omega)
  have r171 : (k != 4) = true := by rw [bne, q171]; rfl
  have p172 : (k = 5) = False := eq_false (by omega)
  have q172 : (k == 5) = false := beq_eq_false_iff_ne.mpr (by omega)
  have r172 : (k != 5) = true := by rw [bne, q172]; rfl
  have p173 : (2 ≤ n) = True := eq_true (by omega)
  have q173 : (n < 2) = False := eq_false (by omega)
  have p174 : (n ≤ 3) = False := eq_false (by omega)
  have q174 : (3 < n) = True := eq_true (by omega)
  clear h
  go_enter Try.func21, Try.ntmps21
  go_wp2_with (first | ((with_reducible refine gate_dst (N := 2) rfl ?_); refine box_event ?hg (N := 2) ?hd (cs := #[.int .i64 k, .int .i64 a, .int .i64 i, .int .i64 b, .int .i64 j, .int .i64 n]) (t := 29) ?hr ?_; (case hd => rfl); (case hg => rfl); (case hr => first | (go_simp; done) | (go_simp; rfl)); intro gm hg_ wv hbox hb; have BM := Aside0.mk hbox; have GM := Aside0.mk (Nat.le_of_eq hg_.symm); have NG := Aside0.mk (show g < gm by rw [hg_]; exact RT.lt HT.out); replace HB := Aside0.mk (below_step HB.out hb); replace HT := Aside0.mk (RT.below HT.out hb); clear hb hbox hg_; have hm0 : wv.cell? ⟨gm, 0, none⟩ = some (.int .i64 k) := (blk_cell BM.out 0).trans rfl; have hm1 : wv.cell? ⟨gm, 1, none⟩ = some (.int .i64 a) := (blk_cell BM.out 1).trans rfl; have hm3 : wv.cell? ⟨gm, 3, none⟩ = some (.int .i64 b) := (blk_cell BM.out 3).trans rfl; have hm5 : wv.cell? ⟨gm, 5, none⟩ = some (.int .i64 n) := (blk_cell BM.out 5).trans rfl))
  first | go_ret | go_ret2
  exact ⟨_, rfl, HB.out, HT.out⟩
set_option maxHeartbeats 8000000 in
set_option maxRecDepth 100000 in
theorem do_k0 (W0 : World) (g cap : Nat) (rs : List Rt) (svs : List (Option Addr × Nat)) (k a i b j n : Int) (w : World) (hb : Below W0.heap.size W0 w) (hT : RT w W0.heap.size g cap rs svs) (hm : ∀ j, (st rs j).length ≤ 1000000) (h : (0 ≤ a ∧ a < (rs.length : Int)) ∧ (0 ≤ b ∧ b < (rs.length : Int)) ∧ (k < 1 ∨ 5 < k) ∧ n = 0) : Calls Try.prog 21 #[.agg #[.int .i64 k, .int .i64 a, .int .i64 i, .int .i64 b, .int .i64 j, .int .i64 n], .slice (some ⟨g, 0, none⟩) rs.length cap] w fun e w' => ∃ svs', e = .returned (.bool (doS rs k a i b j n).1) ∧ Below W0.heap.size W0 w' ∧ RT w' W0.heap.size g cap (doS rs k a i b j n).2 svs' := by
  have HB := Aside0.mk hb
  have HT := Aside0.mk hT
  have HM := Aside0.mk hm
  clear hb hT hm
  have HR := Aside0.mk (show (false, rs) = doS rs k a i b j n by unfold doS; rw [if_pos (by omega), if_neg (show ¬ k = 1 by omega), if_neg (show ¬ k = 2 by omega), if_neg (show ¬ k = 3 by omega), if_neg (show ¬ k = 4 by omega), if_neg (show ¬ k = 5 by omega)])
  rw [← HR.out]
  have p175 : (a < 0) = False := eq_false (by omega)
  have q175 : (0 ≤ a) = True := eq_true (by omega)
  have p176 : ((rs.length : Int) ≤ a) = False := eq_false (by omega)
  have q176 : (a < (rs.length : Int)) = True := eq_true (by omega)
  have p177 : (b < 0) = False := eq_false (by omega)
  have q177 : (0 ≤ b) = True := eq_true (by omega)
  have p178 : ((rs.length : Int) ≤ b) = False := eq_false (by omega)
  have q178 : (b < (rs.length : Int)) = True := eq_true (by omega)
  have p179 : (k = 1) = False := eq_false (by omega)
  have q179 : (k == 1) = false := beq_eq_false_iff_ne.mpr (by omega)
  have r179 : (k != 1) = true := by rw [bne, q179]; rfl
  have p180 : (k = 2) = False := eq_false (by omega)
  have q180 : (k == 2) = false := beq_eq_false_iff_ne.mpr (by omega)
  have r180 : (k != 2) = true := by rw [bne, q180]; rfl
  have p181 : (k = 3) = False := eq_false (by omega)
  have q181 : (k == 3) = false := beq_eq_false_iff_ne.mpr (by omega)
  have r181 : (k != 3) = true := by rw [bne, q181]; rfl
  have p182 : (k = 4) = False := eq_false (by omega)
  have q182 : (k == 4) = false := beq_eq_false_iff_ne.mpr (by omega)
  have r182 : (k != 4) = true := by rw [bne, q182]; rfl
  have p183 : (k = 5) = False := eq_false (by omega)
  have q183 : (k == 5) = false := beq_eq_false_iff_ne.mpr (by omega)
  have r183 : (k != 5) = true := by rw [bne, q183]; rfl
  have p184 : (n = 0) = True := eq_true (by omega)
  have q184 : (n == 0) = true := beq_iff_eq.mpr (by omega)
  have r184 : (n != 0) = false := by rw [bne, q184]; rfl
  clear h
  go_enter Try.func21, Try.ntmps21
  go_wp2_with (first | ((with_reducible refine gate_dst (N := 2) rfl ?_); refine box_event ?hg (N := 2) ?hd (cs := #[.int .i64 k, .int .i64 a, .int .i64 i, .int .i64 b, .int .i64 j, .int .i64 n]) (t := 29) ?hr ?_; (case hd => rfl); (case hg => rfl); (case hr => first | (go_simp; done) | (go_simp; rfl)); intro gm hg_ wv hbox hb; have BM := Aside0.mk hbox; have GM := Aside0.mk (Nat.le_of_eq hg_.symm); have NG := Aside0.mk (show g < gm by rw [hg_]; exact RT.lt HT.out); replace HB := Aside0.mk (below_step HB.out hb); replace HT := Aside0.mk (RT.below HT.out hb); clear hb hbox hg_; have hm0 : wv.cell? ⟨gm, 0, none⟩ = some (.int .i64 k) := (blk_cell BM.out 0).trans rfl; have hm1 : wv.cell? ⟨gm, 1, none⟩ = some (.int .i64 a) := (blk_cell BM.out 1).trans rfl; have hm3 : wv.cell? ⟨gm, 3, none⟩ = some (.int .i64 b) := (blk_cell BM.out 3).trans rfl; have hm5 : wv.cell? ⟨gm, 5, none⟩ = some (.int .i64 n) := (blk_cell BM.out 5).trans rfl))
  first | go_ret | go_ret2
  exact ⟨_, rfl, HB.out, HT.out⟩
theorem do_ (W0 : World) (g cap : Nat) (rs : List Rt) (svs : List (Option Addr × Nat)) (k a i b j n : Int) (w : World) (hb : Below W0.heap.size W0 w) (hT : RT w W0.heap.size g cap rs svs) (hm : ∀ j, (st rs j).length ≤ 1000000) : Calls Try.prog 21 #[.agg #[.int .i64 k, .int .i64 a, .int .i64 i, .int .i64 b, .int .i64 j, .int .i64 n], .slice (some ⟨g, 0, none⟩) rs.length cap] w fun e w' => ∃ svs', e = .returned (.bool (doS rs k a i b j n).1) ∧ Below W0.heap.size W0 w' ∧ RT w' W0.heap.size g cap (doS rs k a i b j n).2 svs' := by
  by_cases a0 : a < 0
  · exact do_g1 W0 g cap rs svs k a i b j n w hb hT hm a0
  by_cases a1 : (rs.length : Int) ≤ a
  · exact do_g2 W0 g cap rs svs k a i b j n w hb hT hm ⟨by omega, a1⟩
  have ha : 0 ≤ a ∧ a < (rs.length : Int) := ⟨by omega, by omega⟩
  by_cases b0 : b < 0
  · exact do_g3 W0 g cap rs svs k a i b j n w hb hT hm ⟨ha, b0⟩
  by_cases b1 : (rs.length : Int) ≤ b
  · exact do_g4 W0 g cap rs svs k a i b j n w hb hT hm ⟨ha, by omega, b1⟩
  have hbb : 0 ≤ b ∧ b < (rs.length : Int) := ⟨by omega, by omega⟩
  by_cases k3 : k = 3
  · by_cases n2 : n < 2
    · exact do_k3a W0 g cap rs svs k a i b j n w hb hT hm ⟨ha, hbb, k3, n2⟩
    by_cases n3 : 3 < n
    · exact do_k3b W0 g cap rs svs k a i b j n w hb hT hm ⟨ha, hbb, k3, n3⟩
    exact do_k3 W0 g cap rs svs k a i b j n w hb hT hm ⟨ha, hbb, k3, by omega, by omega⟩
  by_cases n0 : n = 0
  · by_cases k1 : k = 1
    · exact do_k1 W0 g cap rs svs k a i b j n w hb hT hm ⟨ha, hbb, k1, n0⟩
    by_cases k2 : k = 2
    · exact do_k2 W0 g cap rs svs k a i b j n w hb hT hm ⟨ha, hbb, k2, n0⟩
    by_cases k4 : k = 4
    · exact do_k4 W0 g cap rs svs k a i b j n w hb hT hm ⟨ha, hbb, k4, n0⟩
    by_cases k5 : k = 5
    · exact do_k5 W0 g cap rs svs k a i b j n w hb hT hm ⟨ha, hbb, k5, n0⟩
    exact do_k0 W0 g cap rs svs k a i b j n w hb hT hm ⟨ha, hbb, by omega, n0⟩
  · exact do_g5 W0 g cap rs svs k a i b j n w hb hT hm ⟨ha, hbb, k3, n0⟩
end Go.Proofs.Ytcofibbgdnbejaa.Mv8
