/- move.turn over routes in memory. -/
import Derived.Test.YtcofibbgdnbejaaMv3
namespace Go.Proofs.Ytcofibbgdnbejaa.Mv4
open Go.RowKit Go.Proofs.YtcofibbgdnbejaaW.PrintWords Go.Proofs.YtcofibbgdnbejaaW.PrintLast Go.Proofs.YtcofibbgdnbejaaW.PrintMore Go.Proofs.Ytcofibbgdnbejaa.Ints Go.Proofs.Ytcofibbgdnbejaa.Mv1 Go.Proofs.Ytcofibbgdnbejaa.Mv2 Go.Proofs.Ytcofibbgdnbejaa.Mv3
set_option linter.unusedVariables false
set_option linter.unusedSimpArgs false
set_option maxHeartbeats 8000000 in
set_option maxRecDepth 100000 in
theorem turn_n1 (W0 : World) (g cap : Nat) (rs : List Rt) (svs : List (Option Addr × Nat)) (k a i b j n : Int) (w : World) (hb : Below W0.heap.size W0 w) (hT : RT w W0.heap.size g cap rs svs) (ha : 0 ≤ a) (hal : a < rs.length) (hb0 : 0 ≤ b) (hbl : b < rs.length) (h : ¬ a = b) : Calls Try.prog 32 #[.agg #[.int .i64 k, .int .i64 a, .int .i64 i, .int .i64 b, .int .i64 j, .int .i64 n], .slice (some ⟨g, 0, none⟩) rs.length cap] w fun e w' => ∃ svs', e = .returned (.bool (turnS rs a b i j).1) ∧ Below W0.heap.size W0 w' ∧ RT w' W0.heap.size g cap (turnS rs a b i j).2 svs' := by
  have HB := Aside0.mk hb
  have HT := Aside0.mk hT
  have HA := Aside0.mk ha
  have HAL := Aside0.mk hal
  clear hb hT
  have HIa := Aside0.mk (show a.toNat < rs.length by omega)
  obtain ⟨xsa, hxa⟩ : ∃ xs, st rs a.toNat = xs := ⟨_, rfl⟩
  obtain ⟨Aa, ca, hva⟩ := RT.vl_ rs svs a.toNat xsa hxa
  have HXa := Aside0.mk hxa
  have HVa := Aside0.mk hva
  have HR := Aside0.mk (show (false, rs) = turnS rs a b i j by unfold turnS; rw [if_neg (by rw [hxa]; omega)])
  rw [← HR.out]
  have p1 : (0 ≤ a) = True := eq_true (by omega)
  have q1 : (a < 0) = False := eq_false (by omega)
  have p2 : (a < (rs.length : Int)) = True := eq_true (by omega)
  have q2 : ((rs.length : Int) ≤ a) = False := eq_false (by omega)
  have p3 : (a = b) = False := eq_false (by omega)
  have q3 : (a == b) = false := beq_eq_false_iff_ne.mpr (by omega)
  have r3 : (a != b) = true := by rw [bne, q3]; rfl
  clear ha hal hb0 hbl h
  clear hxa hva
  go_enter Try.func32, Try.ntmps32
  go_wp2_with (first | ((with_reducible refine gate_dst (N := 2) rfl ?_); refine box_event ?hg (N := 2) ?hd (cs := #[.int .i64 k, .int .i64 a, .int .i64 i, .int .i64 b, .int .i64 j, .int .i64 n]) (t := 29) ?hr ?_; (case hd => rfl); (case hg => rfl); (case hr => first | (go_simp; done) | (go_simp; rfl)); intro gm hg_ wv hbox hb; have BM := Aside0.mk hbox; have GM := Aside0.mk (Nat.le_of_eq hg_.symm); have NG := Aside0.mk (show g < gm by rw [hg_]; exact RT.lt HT.out); replace HB := Aside0.mk (below_step HB.out hb); replace HT := Aside0.mk (RT.below HT.out hb); clear hb hbox hg_; have hm1 : wv.cell? ⟨gm, 1, none⟩ = some (.int .i64 a) := (blk_cell BM.out 1).trans rfl; have hm3 : wv.cell? ⟨gm, 3, none⟩ = some (.int .i64 b) := (blk_cell BM.out 3).trans rfl; have hs1 := (RT.cell1 HT.out (j := a.toNat) HIa.out).trans (congrArg some HVa.out)))
  first | go_ret | go_ret2
  exact ⟨svs, rfl, HB.out, HT.out⟩
set_option maxHeartbeats 8000000 in
set_option maxRecDepth 100000 in
theorem turn_n2 (W0 : World) (g cap : Nat) (rs : List Rt) (svs : List (Option Addr × Nat)) (k a i b j n : Int) (w : World) (hb : Below W0.heap.size W0 w) (hT : RT w W0.heap.size g cap rs svs) (ha : 0 ≤ a) (hal : a < rs.length) (hb0 : 0 ≤ b) (hbl : b < rs.length) (h : a = b ∧ i < 0) : Calls Try.prog 32 #[.agg #[.int .i64 k, .int .i64 a, .int .i64 i, .int .i64 b, .int .i64 j, .int .i64 n], .slice (some ⟨g, 0, none⟩) rs.length cap] w fun e w' => ∃ svs', e = .returned (.bool (turnS rs a b i j).1) ∧ Below W0.heap.size W0 w' ∧ RT w' W0.heap.size g cap (turnS rs a b i j).2 svs' := by
  have HB := Aside0.mk hb
  have HT := Aside0.mk hT
  have HA := Aside0.mk ha
  have HAL := Aside0.mk hal
  clear hb hT
  have HIa := Aside0.mk (show a.toNat < rs.length by omega)
  obtain ⟨xsa, hxa⟩ : ∃ xs, st rs a.toNat = xs := ⟨_, rfl⟩
  obtain ⟨Aa, ca, hva⟩ := RT.vl_ rs svs a.toNat xsa hxa
  have HXa := Aside0.mk hxa
  have HVa := Aside0.mk hva
  have HR := Aside0.mk (show (false, rs) = turnS rs a b i j by unfold turnS; rw [if_neg (by rw [hxa]; omega)])
  rw [← HR.out]
  have p4 : (0 ≤ a) = True := eq_true (by omega)
  have q4 : (a < 0) = False := eq_false (by omega)
  have p5 : (a < (rs.length : Int)) = True := eq_true (by omega)
  have q5 : ((rs.length : Int) ≤ a) = False := eq_false (by omega)
  have p6 : (a = b) = True := eq_true (by omega)
  have q6 : (a == b) = true := beq_iff_eq.mpr (by omega)
  have r6 : (a != b) = false := by rw [bne, q6]; rfl
  have p7 : (i < 0) = True := eq_true (by omega)
  have q7 : (0 ≤ i) = False := eq_false (by omega)
  clear ha hal hb0 hbl h
  clear hxa hva
  go_enter Try.func32, Try.ntmps32
  go_wp2_with (first | ((with_reducible refine gate_dst (N := 2) rfl ?_); refine box_event ?hg (N := 2) ?hd (cs := #[.int .i64 k, .int .i64 a, .int .i64 i, .int .i64 b, .int .i64 j, .int .i64 n]) (t := 29) ?hr ?_; (case hd => rfl); (case hg => rfl); (case hr => first | (go_simp; done) | (go_simp; rfl)); intro gm hg_ wv hbox hb; have BM := Aside0.mk hbox; have GM := Aside0.mk (Nat.le_of_eq hg_.symm); have NG := Aside0.mk (show g < gm by rw [hg_]; exact RT.lt HT.out); replace HB := Aside0.mk (below_step HB.out hb); replace HT := Aside0.mk (RT.below HT.out hb); clear hb hbox hg_; have hm1 : wv.cell? ⟨gm, 1, none⟩ = some (.int .i64 a) := (blk_cell BM.out 1).trans rfl; have hm2 : wv.cell? ⟨gm, 2, none⟩ = some (.int .i64 i) := (blk_cell BM.out 2).trans rfl; have hm3 : wv.cell? ⟨gm, 3, none⟩ = some (.int .i64 b) := (blk_cell BM.out 3).trans rfl; have hs1 := (RT.cell1 HT.out (j := a.toNat) HIa.out).trans (congrArg some HVa.out)))
  first | go_ret | go_ret2
  exact ⟨svs, rfl, HB.out, HT.out⟩
set_option maxHeartbeats 8000000 in
set_option maxRecDepth 100000 in
theorem turn_n3 (W0 : World) (g cap : Nat) (rs : List Rt) (svs : List (Option Addr × Nat)) (k a i b j n : Int) (w : World) (hb : Below W0.heap.size W0 w) (hT : RT w W0.heap.size g cap rs svs) (ha : 0 ≤ a) (hal : a < rs.length) (hb0 : 0 ≤ b) (hbl : b < rs.length) (h : a = b ∧ 0 ≤ i ∧ j ≤ i) : Calls Try.prog 32 #[.agg #[.int .i64 k, .int .i64 a, .int .i64 i, .int .i64 b, .int .i64 j, .int .i64 n], .slice (some ⟨g, 0, none⟩) rs.length cap] w fun e w' => ∃ svs', e = .returned (.bool (turnS rs a b i j).1) ∧ Below W0.heap.size W0 w' ∧ RT w' W0.heap.size g cap (turnS rs a b i j).2 svs' := by
  have HB := Aside0.mk hb
  have HT := Aside0.mk hT
  have HA := Aside0.mk ha
  have HAL := Aside0.mk hal
  clear hb hT
  have HIa := Aside0.mk (show a.toNat < rs.length by omega)
  obtain ⟨xsa, hxa⟩ : ∃ xs, st rs a.toNat = xs := ⟨_, rfl⟩
  obtain ⟨Aa, ca, hva⟩ := RT.vl_ rs svs a.toNat xsa hxa
  have HXa := Aside0.mk hxa
  have HVa := Aside0.mk hva
  have HR := Aside0.mk (show (false, rs) = turnS rs a b i j by unfold turnS; rw [if_neg (by rw [hxa]; omega)])
  rw [← HR.out]
  have p8 : (0 ≤ a) = True := eq_true (by omega)
  have q8 : (a < 0) = False := eq_false (by omega)
  have p9 : (a < (rs.length : Int)) = True := eq_true (by omega)
  have q9 : ((rs.length : Int) ≤ a) = False := eq_false (by omega)
  have p10 : (a = b) = True := eq_true (by omega)
  have q10 : (a == b) = true := beq_iff_eq.mpr (by omega)
  have r10 : (a != b) = false := by rw [bne, q10]; rfl
  have p11 : (i < 0) = False := eq_false (by omega)
  have q11 : (0 ≤ i) = True := eq_true (by omega)
  have p12 : (j ≤ i) = True := eq_true (by omega)
  have q12 : (i < j) = False := eq_false (by omega)
  clear ha hal hb0 hbl h
  clear hxa hva
  go_enter Try.func32, Try.ntmps32
  go_wp2_with (first | ((with_reducible refine gate_dst (N := 2) rfl ?_); refine box_event ?hg (N := 2) ?hd (cs := #[.int .i64 k, .int .i64 a, .int .i64 i, .int .i64 b, .int .i64 j, .int .i64 n]) (t := 29) ?hr ?_; (case hd => rfl); (case hg => rfl); (case hr => first | (go_simp; done) | (go_simp; rfl)); intro gm hg_ wv hbox hb; have BM := Aside0.mk hbox; have GM := Aside0.mk (Nat.le_of_eq hg_.symm); have NG := Aside0.mk (show g < gm by rw [hg_]; exact RT.lt HT.out); replace HB := Aside0.mk (below_step HB.out hb); replace HT := Aside0.mk (RT.below HT.out hb); clear hb hbox hg_; have hm1 : wv.cell? ⟨gm, 1, none⟩ = some (.int .i64 a) := (blk_cell BM.out 1).trans rfl; have hm2 : wv.cell? ⟨gm, 2, none⟩ = some (.int .i64 i) := (blk_cell BM.out 2).trans rfl; have hm3 : wv.cell? ⟨gm, 3, none⟩ = some (.int .i64 b) := (blk_cell BM.out 3).trans rfl; have hm4 : wv.cell? ⟨gm, 4, none⟩ = some (.int .i64 j) := (blk_cell BM.out 4).trans rfl; have hs1 := (RT.cell1 HT.out (j := a.toNat) HIa.out).trans (congrArg some HVa.out)))
  first | go_ret | go_ret2
  exact ⟨svs, rfl, HB.out, HT.out⟩
set_option maxHeartbeats 8000000 in
set_option maxRecDepth 100000 in
theorem turn_n4 (W0 : World) (g cap : Nat) (rs : List Rt) (svs : List (Option Addr × Nat)) (k a i b j n : Int) (w : World) (hb : Below W0.heap.size W0 w) (hT : RT w W0.heap.size g cap rs svs) (ha : 0 ≤ a) (hal : a < rs.length) (hb0 : 0 ≤ b) (hbl : b < rs.length) (h : a = b ∧ 0 ≤ i ∧ i < j ∧ ((st rs a.toNat).length : Int) ≤ j) : Calls Try.prog 32 #[.agg #[.int .i64 k, .int .i64 a, .int .i64 i, .int .i64 b, .int .i64 j, .int .i64 n], .slice (some ⟨g, 0, none⟩) rs.length cap] w fun e w' => ∃ svs', e = .returned (.bool (turnS rs a b i j).1) ∧ Below W0.heap.size W0 w' ∧ RT w' W0.heap.size g cap (turnS rs a b i j).2 svs' := by
  have HB := Aside0.mk hb
  have HT := Aside0.mk hT
  have HA := Aside0.mk ha
  have HAL := Aside0.mk hal
  clear hb hT
  have HIa := Aside0.mk (show a.toNat < rs.length by omega)
  obtain ⟨xsa, hxa⟩ : ∃ xs, st rs a.toNat = xs := ⟨_, rfl⟩
  rw [hxa] at h
  obtain ⟨Aa, ca, hva⟩ := RT.vl_ rs svs a.toNat xsa hxa
  have HXa := Aside0.mk hxa
  have HVa := Aside0.mk hva
  have HR := Aside0.mk (show (false, rs) = turnS rs a b i j by unfold turnS; rw [if_neg (by rw [hxa]; omega)])
  rw [← HR.out]
  have p13 : (0 ≤ a) = True := eq_true (by omega)
  have q13 : (a < 0) = False := eq_false (by omega)
  have p14 : (a < (rs.length : Int)) = True := eq_true (by omega)
  have q14 : ((rs.length : Int) ≤ a) = False := eq_false (by omega)
  have p15 : (a = b) = True := eq_true (by omega)
  have q15 : (a == b) = true := beq_iff_eq.mpr (by omega)
  have r15 : (a != b) = false := by rw [bne, q15]; rfl
  have p16 : (i < 0) = False := eq_false (by omega)
  have q16 : (0 ≤ i) = True := eq_true (by omega)
  have p17 : (j ≤ i) = False := eq_false (by omega)
  have q17 : (i < j) = True := eq_true (by omega)
  have p18 : ((xsa.length : Int) ≤ j) = True := eq_true (by omega)
  have q18 : (j < (xsa.length : Int)) = False := eq_false (by omega)
  clear ha hal hb0 hbl h
  clear hxa hva
  go_enter Try.func32, Try.ntmps32
  go_wp2_with (first | ((with_reducible refine gate_dst (N := 2) rfl ?_); refine box_event ?hg (N := 2) ?hd (cs := #[.int .i64 k, .int .i64 a, .int .i64 i, .int .i64 b, .int .i64 j, .int .i64 n]) (t := 29) ?hr ?_; (case hd => rfl); (case hg => rfl); (case hr => first | (go_simp; done) | (go_simp; rfl)); intro gm hg_ wv hbox hb; have BM := Aside0.mk hbox; have GM := Aside0.mk (Nat.le_of_eq hg_.symm); have NG := Aside0.mk (show g < gm by rw [hg_]; exact RT.lt HT.out); replace HB := Aside0.mk (below_step HB.out hb); replace HT := Aside0.mk (RT.below HT.out hb); clear hb hbox hg_; have hm1 : wv.cell? ⟨gm, 1, none⟩ = some (.int .i64 a) := (blk_cell BM.out 1).trans rfl; have hm2 : wv.cell? ⟨gm, 2, none⟩ = some (.int .i64 i) := (blk_cell BM.out 2).trans rfl; have hm3 : wv.cell? ⟨gm, 3, none⟩ = some (.int .i64 b) := (blk_cell BM.out 3).trans rfl; have hm4 : wv.cell? ⟨gm, 4, none⟩ = some (.int .i64 j) := (blk_cell BM.out 4).trans rfl; have hs1 := (RT.cell1 HT.out (j := a.toNat) HIa.out).trans (congrArg some HVa.out)))
  first | go_ret | go_ret2
  exact ⟨svs, rfl, HB.out, HT.out⟩
set_option maxHeartbeats 8000000 in
set_option maxRecDepth 100000 in
theorem turn_y (W0 : World) (g cap : Nat) (rs : List Rt) (svs : List (Option Addr × Nat)) (k a i b j n : Int) (w : World) (hb : Below W0.heap.size W0 w) (hT : RT w W0.heap.size g cap rs svs) (ha : 0 ≤ a) (hal : a < rs.length) (hb0 : 0 ≤ b) (hbl : b < rs.length) (h : a = b ∧ 0 ≤ i ∧ i < j ∧ j < ((st rs a.toNat).length : Int)) : Calls Try.prog 32 #[.agg #[.int .i64 k, .int .i64 a, .int .i64 i, .int .i64 b, .int .i64 j, .int .i64 n], .slice (some ⟨g, 0, none⟩) rs.length cap] w fun e w' => ∃ svs', e = .returned (.bool (turnS rs a b i j).1) ∧ Below W0.heap.size W0 w' ∧ RT w' W0.heap.size g cap (turnS rs a b i j).2 svs' := by
  have HR := Aside0.mk (show (true, rs.set a.toNat (tr rs a.toNat, revS (st rs a.toNat) i.toNat j.toNat)) = turnS rs a b i j by unfold turnS; rw [if_pos h])
  obtain ⟨i, rfl⟩ := Int.eq_ofNat_of_zero_le h.2.1
  obtain ⟨j, rfl⟩ := Int.eq_ofNat_of_zero_le (show 0 ≤ j by omega)
  obtain ⟨xsa, hxa⟩ : ∃ xs, st rs a.toNat = xs := ⟨_, rfl⟩
  obtain ⟨ba, ca, hva, hbba, hbla⟩ := RT.form hT (by omega) hxa (by rw [← hxa]; omega)
  have HXa := Aside0.mk hxa
  have HVa := Aside0.mk hva
  have HBBa := Aside0.mk hbba
  have HBLa := Aside0.mk hbla
  have HB := Aside0.mk hb
  have HT := Aside0.mk hT
  have HA := Aside0.mk ha
  have HAL := Aside0.mk hal
  clear hb hT
  have HIa := Aside0.mk (show a.toNat < rs.length by omega)
  rw [hxa] at h
  have HJL := Aside0.mk (show j < xsa.length by omega)
  have HIJ := Aside0.mk (show i ≤ j by omega)
  have hmax : xsa.length ≤ maxLen := by
    have := ownMax (ownAt HT.out HIa.out hxa hva)
    omega
  have HW := Aside0.mk (show wrap64 ((j : Int) + 1) = ((j + 1 : Nat) : Int) by unfold maxLen at hmax; unfold wrap64; omega)
  have HN := Aside0.mk (ownCap (ownAt HT.out HIa.out hxa hva))
  clear hmax
  have hs : ∀ w, (Instr.slice 33 (.slice (some ⟨ba, 0, none⟩) xsa.length ca) (some (.int .i64 (i : Int))) (some (.int .i64 ((j : Int) + 1))) none).run Try.prog w = .ok (.slice (some ⟨ba, i, none⟩) (j + 1 - i) (ca - i)) w := fun w => sl_mid w ba xsa.length ca i (j + 1) (by omega) (by omega) HN.out (by have := HN.out; omega)
  have hci : (ca = i) = False := eq_false (by have := HN.out; omega)
  have hjc : ((j : Int) + 1 ≤ (ca : Int)) = True := eq_true (by have := HN.out; omega)
  have hj0 : (0 ≤ (j : Int) + 1) = True := eq_true (by omega)
  have hij : (i ≤ j + 1) = True := eq_true (by omega)
  rw [← HR.out]
  simp only [Int.toNat_natCast]
  rw [hxa]
  have p19 : (0 ≤ a) = True := eq_true (by omega)
  have q19 : (a < 0) = False := eq_false (by omega)
  have p20 : (a < (rs.length : Int)) = True := eq_true (by omega)
  have q20 : ((rs.length : Int) ≤ a) = False := eq_false (by omega)
  have p21 : (a = b) = True := eq_true (by omega)
  have q21 : (a == b) = true := beq_iff_eq.mpr (by omega)
  have r21 : (a != b) = false := by rw [bne, q21]; rfl
  have p22 : ((i : Int) < 0) = False := eq_false (by omega)
  have q22 : (0 ≤ (i : Int)) = True := eq_true (by omega)
  have p23 : ((j : Int) ≤ (i : Int)) = False := eq_false (by omega)
  have q23 : ((i : Int) < (j : Int)) = True := eq_true (by omega)
  have p24 : ((xsa.length : Int) ≤ (j : Int)) = False := eq_false (by omega)
  have q24 : ((j : Int) < (xsa.length : Int)) = True := eq_true (by omega)
  clear ha hal hb0 hbl h
  clear hxa hva hbba hbla
  have hw1 := HW.out
  go_enter Try.func32, Try.ntmps32
  go_wp2_with (first | ((with_reducible refine gate_dst (N := 2) rfl ?_); refine box_event ?hg (N := 2) ?hd (cs := #[.int .i64 k, .int .i64 a, .int .i64 i, .int .i64 b, .int .i64 j, .int .i64 n]) (t := 29) ?hr ?_; (case hd => rfl); (case hg => rfl); (case hr => first | (go_simp; done) | (go_simp; rfl)); intro gm hg_ wv hbox hb; have BM := Aside0.mk hbox; have GM := Aside0.mk (Nat.le_of_eq hg_.symm); have NG := Aside0.mk (show g < gm by rw [hg_]; exact RT.lt HT.out); replace HB := Aside0.mk (below_step HB.out hb); replace HT := Aside0.mk (RT.below HT.out hb); clear hb hbox hg_; have hm1 : wv.cell? ⟨gm, 1, none⟩ = some (.int .i64 a) := (blk_cell BM.out 1).trans rfl; have hm2 : wv.cell? ⟨gm, 2, none⟩ = some (.int .i64 i) := (blk_cell BM.out 2).trans rfl; have hm3 : wv.cell? ⟨gm, 3, none⟩ = some (.int .i64 b) := (blk_cell BM.out 3).trans rfl; have hm4 : wv.cell? ⟨gm, 4, none⟩ = some (.int .i64 j) := (blk_cell BM.out 4).trans rfl; have hs1 := (RT.cell1 HT.out (j := a.toNat) HIa.out).trans (congrArg some HVa.out)) | (go_at_call 42; (with_reducible refine (rev W0.heap.size xsa i j ba ca _ _ (ownAt HT.out HIa.out HXa.out HVa.out) HIJ.out HJL.out).mono ?_); rintro e wv ⟨rfl, ho, hg⟩; replace HB := Aside0.mk (HB.out.grown hg (below_size HB.out) (fun q hq => by injection hq with hq; exact hq ▸ HBBa.out)); replace HT := Aside0.mk (RT.inplace (j := a.toNat) (s1 := revS xsa i j) HT.out HIa.out (by rw [HXa.out, revS_len _ _ _ HIJ.out HJL.out]) (by rw [HVa.out]; exact hg) (by rw [HVa.out]; exact RI_of ho (revS_len _ _ _ HIJ.out HJL.out).symm)); clear ho hg))
  first | go_ret | go_ret2
  exact ⟨svs, rfl, HB.out, HT.out⟩
end Go.Proofs.Ytcofibbgdnbejaa.Mv4
