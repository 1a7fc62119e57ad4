/- move.tails over routes in memory. -/
import Derived.Test.YtcofibbgdnbejaaCat
namespace Go.Proofs.Ytcofibbgdnbejaa.Mv7
open Go.RowKit Go.Proofs.YtcofibbgdnbejaaW.PrintWords Go.Proofs.YtcofibbgdnbejaaW.PrintLast Go.Proofs.YtcofibbgdnbejaaW.PrintMore Go.Proofs.Ytcofibbgdnbejaa.Ints Go.Proofs.Ytcofibbgdnbejaa.Mv1 Go.Proofs.Ytcofibbgdnbejaa.Mv2 Go.Proofs.Ytcofibbgdnbejaa.Mv3 Go.Proofs.Ytcofibbgdnbejaa.Mv5 Go.Proofs.Ytcofibbgdnbejaa.Mv6 Go.Proofs.Ytcofibbgdnbejaa.Cat
attribute [local go_sem] max2_int min2_int max_two min_two max_three min_three max_four min_four
set_option linter.unusedVariables false
set_option linter.unusedSimpArgs false
def taS (rs : List Rt) (a b i j : Int) : Bool × List Rt :=
  if a < b ∧ 0 ≤ i ∧ i ≤ ((st rs a.toNat).length : Int) ∧ 0 ≤ j ∧ j ≤ ((st rs b.toNat).length : Int) then
    (true, let r1 := rs.set a.toNat (tr rs a.toNat, (st rs a.toNat).take i.toNat ++ (st rs b.toNat).drop j.toNat); r1.set b.toNat (tr r1 b.toNat, (st rs b.toNat).take j.toNat ++ (st rs a.toNat).drop i.toNat))
  else (false, rs)
set_option maxHeartbeats 8000000 in
set_option maxRecDepth 100000 in
theorem ta_n1 (W0 : World) (g cap : Nat) (rs : List Rt) (svs : List (Option Addr × Nat)) (k a i b j n : Int) (w : World) (hb : Below W0.heap.size W0 w) (hT : RT w W0.heap.size g cap rs svs) (ha : 0 ≤ a) (hal : a < rs.length) (hb0 : 0 ≤ b) (hbl : b < rs.length) (h : b ≤ a) : Calls Try.prog 31 #[.agg #[.int .i64 k, .int .i64 a, .int .i64 i, .int .i64 b, .int .i64 j, .int .i64 n], .slice (some ⟨g, 0, none⟩) rs.length cap] w fun e w' => ∃ svs', e = .returned (.bool (taS rs a b i j).1) ∧ Below W0.heap.size W0 w' ∧ RT w' W0.heap.size g cap (taS rs a b i j).2 svs' := by
  have HB := Aside0.mk hb
  have HT := Aside0.mk hT
  have HA := Aside0.mk ha
  have HAL := Aside0.mk hal
  clear hb hT
  have HIa := Aside0.mk (show a.toNat < rs.length by omega)
  have HIb := Aside0.mk (show b.toNat < rs.length by omega)
  obtain ⟨xsa, hxa⟩ : ∃ xs, st rs a.toNat = xs := ⟨_, rfl⟩
  obtain ⟨Aa, ca, hva⟩ := RT.vl_ rs svs a.toNat xsa hxa
  have HXa := Aside0.mk hxa
  have HVa := Aside0.mk hva
  obtain ⟨xsb, hxb⟩ : ∃ xs, st rs b.toNat = xs := ⟨_, rfl⟩
  obtain ⟨Ab, cb, hvb⟩ := RT.vl_ rs svs b.toNat xsb hxb
  have HXb := Aside0.mk hxb
  have HVb := Aside0.mk hvb
  (try rw [hxa] at h)
  (try rw [hxb] at h)
  have HR := Aside0.mk (show (false, rs) = taS rs a b i j by unfold taS; rw [if_neg (by rw [hxa, hxb]; omega)])
  rw [← HR.out]
  have p43 : (0 ≤ a) = True := eq_true (by omega)
  have q43 : (a < 0) = False := eq_false (by omega)
  have p44 : (a < (rs.length : Int)) = True := eq_true (by omega)
  have q44 : ((rs.length : Int) ≤ a) = False := eq_false (by omega)
  have p45 : (0 ≤ b) = True := eq_true (by omega)
  have q45 : (b < 0) = False := eq_false (by omega)
  have p46 : (b < (rs.length : Int)) = True := eq_true (by omega)
  have q46 : ((rs.length : Int) ≤ b) = False := eq_false (by omega)
  have p47 : (b ≤ a) = True := eq_true (by omega)
  have q47 : (a < b) = False := eq_false (by omega)
  clear ha hal hb0 hbl h
  clear hxa hva hxb hvb
  go_enter Try.func31, Try.ntmps31
  go_wp2_with (first | ((with_reducible refine gate_dst (N := 2) rfl ?_); refine box_event ?hg (N := 2) ?hd (cs := #[.int .i64 k, .int .i64 a, .int .i64 i, .int .i64 b, .int .i64 j, .int .i64 n]) (t := 29) ?hr ?_; (case hd => rfl); (case hg => rfl); (case hr => first | (go_simp; done) | (go_simp; rfl)); intro gm hg_ wv hbox hb; have BM := Aside0.mk hbox; have GM := Aside0.mk (Nat.le_of_eq hg_.symm); have NG := Aside0.mk (show g < gm by rw [hg_]; exact RT.lt HT.out); replace HB := Aside0.mk (below_step HB.out hb); replace HT := Aside0.mk (RT.below HT.out hb); clear hb hbox hg_; have hm1 : wv.cell? ⟨gm, 1, none⟩ = some (.int .i64 a) := (blk_cell BM.out 1).trans rfl; have hm3 : wv.cell? ⟨gm, 3, none⟩ = some (.int .i64 b) := (blk_cell BM.out 3).trans rfl; have hs1 := (RT.cell1 HT.out (j := a.toNat) HIa.out).trans (congrArg some HVa.out); have hs2 := (RT.cell1 HT.out (j := b.toNat) HIb.out).trans (congrArg some HVb.out)))
  go_quiet (fail)
  go_wp2
  first | go_ret | go_ret2
  exact ⟨svs, rfl, pw_below_drewN HB.out _, RT.below HT.out (pw_below_drewN (Below.refl _ _) _)⟩
set_option maxHeartbeats 8000000 in
set_option maxRecDepth 100000 in
theorem ta_n2 (W0 : World) (g cap : Nat) (rs : List Rt) (svs : List (Option Addr × Nat)) (k a i b j n : Int) (w : World) (hb : Below W0.heap.size W0 w) (hT : RT w W0.heap.size g cap rs svs) (ha : 0 ≤ a) (hal : a < rs.length) (hb0 : 0 ≤ b) (hbl : b < rs.length) (h : a < b ∧ i < 0) : Calls Try.prog 31 #[.agg #[.int .i64 k, .int .i64 a, .int .i64 i, .int .i64 b, .int .i64 j, .int .i64 n], .slice (some ⟨g, 0, none⟩) rs.length cap] w fun e w' => ∃ svs', e = .returned (.bool (taS rs a b i j).1) ∧ Below W0.heap.size W0 w' ∧ RT w' W0.heap.size g cap (taS rs a b i j).2 svs' := by
  have HB := Aside0.mk hb
  have HT := Aside0.mk hT
  have HA := Aside0.mk ha
  have HAL := Aside0.mk hal
  clear hb hT
  have HIa := Aside0.mk (show a.toNat < rs.length by omega)
  have HIb := Aside0.mk (show b.toNat < rs.length by omega)
  obtain ⟨xsa, hxa⟩ : ∃ xs, st rs a.toNat = xs := ⟨_, rfl⟩
  obtain ⟨Aa, ca, hva⟩ := RT.vl_ rs svs a.toNat xsa hxa
  have HXa := Aside0.mk hxa
  have HVa := Aside0.mk hva
  obtain ⟨xsb, hxb⟩ : ∃ xs, st rs b.toNat = xs := ⟨_, rfl⟩
  obtain ⟨Ab, cb, hvb⟩ := RT.vl_ rs svs b.toNat xsb hxb
  have HXb := Aside0.mk hxb
  have HVb := Aside0.mk hvb
  (try rw [hxa] at h)
  (try rw [hxb] at h)
  have HR := Aside0.mk (show (false, rs) = taS rs a b i j by unfold taS; rw [if_neg (by rw [hxa, hxb]; omega)])
  rw [← HR.out]
  have p48 : (0 ≤ a) = True := eq_true (by omega)
  have q48 : (a < 0) = False := eq_false (by omega)
  have p49 : (a < (rs.length : Int)) = True := eq_true (by omega)
  have q49 : ((rs.length : Int) ≤ a) = False := eq_false (by omega)
  have p50 : (0 ≤ b) = True := eq_true (by omega)
  have q50 : (b < 0) = False := eq_false (by omega)
  have p51 : (b < (rs.length : Int)) = True := eq_true (by omega)
  have q51 : ((rs.length : Int) ≤ b) = False := eq_false (by omega)
  have p52 : (b ≤ a) = False := eq_false (by omega)
  have q52 : (a < b) = True := eq_true (by omega)
  have p53 : (i < 0) = True := eq_true (by omega)
  have q53 : (0 ≤ i) = False := eq_false (by omega)
  clear ha hal hb0 hbl h
  clear hxa hva hxb hvb
  go_enter Try.func31, Try.ntmps31
  go_wp2_with (first | ((with_reducible refine gate_dst (N := 2) rfl ?_); refine box_event ?hg (N := 2) ?hd (cs := #[.int .i64 k, .int .i64 a, .int .i64 i, .int .i64 b, .int .i64 j, .int .i64 n]) (t := 29) ?hr ?_; (case hd => rfl); (case hg => rfl); (case hr => first | (go_simp; done) | (go_simp; rfl)); intro gm hg_ wv hbox hb; have BM := Aside0.mk hbox; have GM := Aside0.mk (Nat.le_of_eq hg_.symm); have NG := Aside0.mk (show g < gm by rw [hg_]; exact RT.lt HT.out); replace HB := Aside0.mk (below_step HB.out hb); replace HT := Aside0.mk (RT.below HT.out hb); clear hb hbox hg_; have hm1 : wv.cell? ⟨gm, 1, none⟩ = some (.int .i64 a) := (blk_cell BM.out 1).trans rfl; have hm2 : wv.cell? ⟨gm, 2, none⟩ = some (.int .i64 i) := (blk_cell BM.out 2).trans rfl; have hm3 : wv.cell? ⟨gm, 3, none⟩ = some (.int .i64 b) := (blk_cell BM.out 3).trans rfl; have hs1 := (RT.cell1 HT.out (j := a.toNat) HIa.out).trans (congrArg some HVa.out); have hs2 := (RT.cell1 HT.out (j := b.toNat) HIb.out).trans (congrArg some HVb.out)))
  go_quiet (fail)
  go_wp2
  first | go_ret | go_ret2
  exact ⟨svs, rfl, pw_below_drewN HB.out _, RT.below HT.out (pw_below_drewN (Below.refl _ _) _)⟩
set_option maxHeartbeats 8000000 in
set_option maxRecDepth 100000 in
theorem ta_n3 (W0 : World) (g cap : Nat) (rs : List Rt) (svs : List (Option Addr × Nat)) (k a i b j n : Int) (w : World) (hb : Below W0.heap.size W0 w) (hT : RT w W0.heap.size g cap rs svs) (ha : 0 ≤ a) (hal : a < rs.length) (hb0 : 0 ≤ b) (hbl : b < rs.length) (h : a < b ∧ 0 ≤ i ∧ ((st rs a.toNat).length : Int) < i) : Calls Try.prog 31 #[.agg #[.int .i64 k, .int .i64 a, .int .i64 i, .int .i64 b, .int .i64 j, .int .i64 n], .slice (some ⟨g, 0, none⟩) rs.length cap] w fun e w' => ∃ svs', e = .returned (.bool (taS rs a b i j).1) ∧ Below W0.heap.size W0 w' ∧ RT w' W0.heap.size g cap (taS rs a b i j).2 svs' := by
  have HB := Aside0.mk hb
  have HT := Aside0.mk hT
  have HA := Aside0.mk ha
  have HAL := Aside0.mk hal
  clear hb hT
  have HIa := Aside0.mk (show a.toNat < rs.length by omega)
  have HIb := Aside0.mk (show b.toNat < rs.length by omega)
  obtain ⟨xsa, hxa⟩ : ∃ xs, st rs a.toNat = xs := ⟨_, rfl⟩
  obtain ⟨Aa, ca, hva⟩ := RT.vl_ rs svs a.toNat xsa hxa
  have HXa := Aside0.mk hxa
  have HVa := Aside0.mk hva
  obtain ⟨xsb, hxb⟩ : ∃ xs, st rs b.toNat = xs := ⟨_, rfl⟩
  obtain ⟨Ab, cb, hvb⟩ := RT.vl_ rs svs b.toNat xsb hxb
  have HXb := Aside0.mk hxb
  have HVb := Aside0.mk hvb
  (try rw [hxa] at h)
  (try rw [hxb] at h)
  have HR := Aside0.mk (show (false, rs) = taS rs a b i j by unfold taS; rw [if_neg (by rw [hxa, hxb]; omega)])
  rw [← HR.out]
  have p54 : (0 ≤ a) = True := eq_true (by omega)
  have q54 : (a < 0) = False := eq_false (by omega)
  have p55 : (a < (rs.length : Int)) = True := eq_true (by omega)
  have q55 : ((rs.length : Int) ≤ a) = False := eq_false (by omega)
  have p56 : (0 ≤ b) = True := eq_true (by omega)
  have q56 : (b < 0) = False := eq_false (by omega)
  have p57 : (b < (rs.length : Int)) = True := eq_true (by omega)
  have q57 : ((rs.length : Int) ≤ b) = False := eq_false (by omega)
  have p58 : (b ≤ a) = False := eq_false (by omega)
  have q58 : (a < b) = True := eq_true (by omega)
  have p59 : (i < 0) = False := eq_false (by omega)
  have q59 : (0 ≤ i) = True := eq_true (by omega)
  have p60 : ((xsa.length : Int) < i) = True := eq_true (by omega)
  have q60 : (i ≤ (xsa.length : Int)) = False := eq_false (by omega)
  clear ha hal hb0 hbl h
  clear hxa hva hxb hvb
  go_enter Try.func31, Try.ntmps31
  go_wp2_with (first | ((with_reducible refine gate_dst (N := 2) rfl ?_); refine box_event ?hg (N := 2) ?hd (cs := #[.int .i64 k, .int .i64 a, .int .i64 i, .int .i64 b, .int .i64 j, .int .i64 n]) (t := 29) ?hr ?_; (case hd => rfl); (case hg => rfl); (case hr => first | (go_simp; done) | (go_simp; rfl)); intro gm hg_ wv hbox hb; have BM := Aside0.mk hbox; have GM := Aside0.mk (Nat.le_of_eq hg_.symm); have NG := Aside0.mk (show g < gm by rw [hg_]; exact RT.lt HT.out); replace HB := Aside0.mk (below_step HB.out hb); replace HT := Aside0.mk (RT.below HT.out hb); clear hb hbox hg_; have hm1 : wv.cell? ⟨gm, 1, none⟩ = some (.int .i64 a) := (blk_cell BM.out 1).trans rfl; have hm2 : wv.cell? ⟨gm, 2, none⟩ = some (.int .i64 i) := (blk_cell BM.out 2).trans rfl; have hm3 : wv.cell? ⟨gm, 3, none⟩ = some (.int .i64 b) := (blk_cell BM.out 3).trans rfl; have hs1 := (RT.cell1 HT.out (j := a.toNat) HIa.out).trans (congrArg some HVa.out); have hs2 := (RT.cell1 HT.out (j := b.toNat) HIb.out).trans (congrArg some HVb.out)))
  go_quiet (fail)
  go_wp2
  first | go_ret | go_ret2
  exact ⟨svs, rfl, pw_below_drewN HB.out _, RT.below HT.out (pw_below_drewN (Below.refl _ _) _)⟩
set_option maxHeartbeats 8000000 in
set_option maxRecDepth 100000 in
theorem ta_n4 (W0 : World) (g cap : Nat) (rs : List Rt) (svs : List (Option Addr × Nat)) (k a i b j n : Int) (w : World) (hb : Below W0.heap.size W0 w) (hT : RT w W0.heap.size g cap rs svs) (ha : 0 ≤ a) (hal : a < rs.length) (hb0 : 0 ≤ b) (hbl : b < rs.length) (h : a < b ∧ 0 ≤ i ∧ i ≤ ((st rs a.toNat).length : Int) ∧ j < 0) : Calls Try.prog 31 #[.agg #[.int .i64 k, .int .i64 a, .int .i64 i, .int .i64 b, .int .i64 j, .int .i64 n], .slice (some ⟨g, 0, none⟩) rs.length cap] w fun e w' => ∃ svs', e = .returned (.bool (taS rs a b i j).1) ∧ Below W0.heap.size W0 w' ∧ RT w' W0.heap.size g cap (taS rs a b i j).2 svs' := by
  have HB := Aside0.mk hb
  have HT := Aside0.mk hT
  have HA := Aside0.mk ha
  have HAL := Aside0.mk hal
  clear hb hT
  have HIa := Aside0.mk (show a.toNat < rs.length by omega)
  have HIb := Aside0.mk (show b.toNat < rs.length by omega)
  obtain ⟨xsa, hxa⟩ : ∃ xs, st rs a.toNat = xs := ⟨_, rfl⟩
  obtain ⟨Aa, ca, hva⟩ := RT.vl_ rs svs a.toNat xsa hxa
  have HXa := Aside0.mk hxa
  have HVa := Aside0.mk hva
  obtain ⟨xsb, hxb⟩ : ∃ xs, st rs b.toNat = xs := ⟨_, rfl⟩
  obtain ⟨Ab, cb, hvb⟩ := RT.vl_ rs svs b.toNat xsb hxb
  have HXb := Aside0.mk hxb
  have HVb := Aside0.mk hvb
  (try rw [hxa] at h)
  (try rw [hxb] at h)
  have HR := Aside0.mk (show (false, rs) = taS rs a b i j by unfold taS; rw [if_neg (by rw [hxa, hxb]; omega)])
  rw [← HR.out]
  have p61 : (0 ≤ a) = True := eq_true (by omega)
  have q61 : (a < 0) = False := eq_false (by omega)
  have p62 : (a < (rs.length : Int)) = True := eq_true (by omega)
  have q62 : ((rs.length : Int) ≤ a) = False := eq_false (by omega)
  have p63 : (0 ≤ b) = True := eq_true (by omega)
  have q63 : (b < 0) = False := eq_false (by omega)
  have p64 : (b < (rs.length : Int)) = True := eq_true (by omega)
  have q64 : ((rs.length : Int) ≤ b) = False := eq_false (by omega)
  have p65 : (b ≤ a) = False := eq_false (by omega)
  have q65 : (a < b) = True := eq_true (by omega)
  have p66 : (i < 0) = False := eq_false (by omega)
  have q66 : (0 ≤ i) = True := eq_true (by omega)
  have p67 : ((xsa.length : Int) < i) = False := eq_false (by omega)
  have q67 : (i ≤ (xsa.length : Int)) = True := eq_true (by omega)
  have p68 : (j < 0) = True := eq_true (by omega)
  have q68 : (0 ≤ j) = False := eq_false (by omega)
  clear ha hal hb0 hbl h
  clear hxa hva hxb hvb
  go_enter Try.func31, Try.ntmps31
  go_wp2_with (first | ((with_reducible refine gate_dst (N := 2) rfl ?_); refine box_event ?hg (N := 2) ?hd (cs := #[.int .i64 k, .int .i64 a, .int .i64 i, .int .i64 b, .int .i64 j, .int .i64 n]) (t := 29) ?hr ?_; (case hd => rfl); (case hg => rfl); (case hr => first | (go_simp; done) | (go_simp; rfl)); intro gm hg_ wv hbox hb; have BM := Aside0.mk hbox; have GM := Aside0.mk (Nat.le_of_eq hg_.symm); have NG := Aside0.mk (show g < gm by rw [hg_]; exact RT.lt HT.out); replace HB := Aside0.mk (below_step HB.out hb); replace HT := Aside0.mk (RT.below HT.out hb); clear hb hbox hg_; have hm1 : wv.cell? ⟨gm, 1, none⟩ = some (.int .i64 a) := (blk_cell BM.out 1).trans rfl; have hm2 : wv.cell? ⟨gm, 2, none⟩ = some (.int .i64 i) := (blk_cell BM.out 2).trans rfl; have hm3 : wv.cell? ⟨gm, 3, none⟩ = some (.int .i64 b) := (blk_cell BM.out 3).trans rfl; have hm4 : wv.cell? ⟨gm, 4, none⟩ = some (.int .i64 j) := (blk_cell BM.out 4).trans rfl; have hs1 := (RT.cell1 HT.out (j := a.toNat) HIa.out).trans (congrArg some HVa.out); have hs2 := (RT.cell1 HT.out (j := b.toNat) HIb.out).trans (congrArg some HVb.out)))
  go_quiet (fail)
  go_wp2
  first | go_ret | go_ret2
  exact ⟨svs, rfl, pw_below_drewN HB.out _, RT.below HT.out (pw_below_drewN (Below.refl _ _) _)⟩
set_option maxHeartbeats 8000000 in
set_option maxRecDepth 100000 in
theorem ta_n5 (W0 : World) (g cap : Nat) (rs : List Rt) (svs : List (Option Addr × Nat)) (k a i b j n : Int) (w : World) (hb : Below W0.heap.size W0 w) (hT : RT w W0.heap.size g cap rs svs) (ha : 0 ≤ a) (hal : a < rs.length) (hb0 : 0 ≤ b) (hbl : b < rs.length) (h : a < b ∧ 0 ≤ i ∧ i ≤ ((st rs a.toNat).length : Int) ∧ 0 ≤ j ∧ ((st rs b.toNat).length : Int) < j) : Calls Try.prog 31 #[.agg #[.int .i64 k, .int .i64 a, .int .i64 i, .int .i64 b, .int .i64 j, .int .i64 n], .slice (some ⟨g, 0, none⟩) rs.length cap] w fun e w' => ∃ svs', e = .returned (.bool (taS rs a b i j).1) ∧ Below W0.heap.size W0 w' ∧ RT w' W0.heap.size g cap (taS rs a b i j).2 svs' := by
  have HB := Aside0.mk hb
  have HT := Aside0.mk hT
  have HA := Aside0.mk ha
  have HAL := Aside0.mk hal
  clear hb hT
  have HIa := Aside0.mk (show a.toNat < rs.length by omega)
  have HIb := Aside0.mk (show b.toNat < rs.length by omega)
  obtain ⟨xsa, hxa⟩ : ∃ xs, st rs a.toNat = xs := ⟨_, rfl⟩
  obtain ⟨Aa, ca, hva⟩ := RT.vl_ rs svs a.toNat xsa hxa
  have HXa := Aside0.mk hxa
  have HVa := Aside0.mk hva
  obtain ⟨xsb, hxb⟩ : ∃ xs, st rs b.toNat = xs := ⟨_, rfl⟩
  obtain ⟨Ab, cb, hvb⟩ := RT.vl_ rs svs b.toNat xsb hxb
  have HXb := Aside0.mk hxb
  have HVb := Aside0.mk hvb
  (try rw [hxa] at h)
  (try rw [hxb] at h)
  have HR := Aside0.mk (show (false, rs) = taS rs a b i j by unfold taS; rw [if_neg (by rw [hxa, hxb]; omega)])
  rw [← HR.out]
  have p69 : (0 ≤ a) = True := eq_true (by omega)
  have q69 : (a < 0) = False := eq_false (by omega)
  have p70 : (a < (rs.length : Int)) = True := eq_true (by omega)
  have q70 : ((rs.length : Int) ≤ a) = False := eq_false (by omega)
  have p71 : (0 ≤ b) = True := eq_true (by omega)
  have q71 : (b < 0) = False := eq_false (by omega)
  have p72 : (b < (rs.length : Int)) = True := eq_true (by omega)
  have q72 : ((rs.length : Int) ≤ b) = False := eq_false (by omega)
  have p73 : (b ≤ a) = False := eq_false (by omega)
  have q73 : (a < b) = True := eq_true (by omega)
  have p74 : (i < 0) = False := eq_false (by omega)
  have q74 : (0 ≤ i) = True := eq_true (by omega)
  have p75 : ((xsa.length : Int) < i) = False := eq_false (by omega)
  have q75 : (i ≤ (xsa.length : Int)) = True := eq_true (by omega)
  have p76 : (j < 0) = False := eq_false (by omega)
  have q76 : (0 ≤ j) = True := eq_true (by omega)
  have p77 : ((xsb.length : Int) < j) = True := eq_true (by omega)
  have q77 : (j ≤ (xsb.length : Int)) = False := eq_false (by omega)
  clear ha hal hb0 hbl h
  clear hxa hva hxb hvb
  go_enter Try.func31, Try.ntmps31
  go_wp2_with (first | ((with_reducible refine gate_dst (N := 2) rfl ?_); refine box_event ?hg (N := 2) ?hd (cs := #[.int .i64 k, .int .i64 a, .int .i64 i, .int .i64 b, .int .i64 j, .int .i64 n]) (t := 29) ?hr ?_; (case hd => rfl); (case hg => rfl); (case hr => first | (go_simp; done) | (go_simp; rfl)); intro gm hg_ wv hbox hb; have BM := Aside0.mk hbox; have GM := Aside0.mk (Nat.le_of_eq hg_.symm); have NG := Aside0.mk (show g < gm by rw [hg_]; exact RT.lt HT.out); replace HB := Aside0.mk (below_step HB.out hb); replace HT := Aside0.mk (RT.below HT.out hb); clear hb hbox hg_; have hm1 : wv.cell? ⟨gm, 1, none⟩ = some (.int .i64 a) := (blk_cell BM.out 1).trans rfl; have hm2 : wv.cell? ⟨gm, 2, none⟩ = some (.int .i64 i) := (blk_cell BM.out 2).trans rfl; have hm3 : wv.cell? ⟨gm, 3, none⟩ = some (.int .i64 b) := (blk_cell BM.out 3).trans rfl; have hm4 : wv.cell? ⟨gm, 4, none⟩ = some (.int .i64 j) := (blk_cell BM.out 4).trans rfl; have hs1 := (RT.cell1 HT.out (j := a.toNat) HIa.out).trans (congrArg some HVa.out); have hs2 := (RT.cell1 HT.out (j := b.toNat) HIb.out).trans (congrArg some HVb.out)))
  go_quiet (fail)
  go_wp2
  first | go_ret | go_ret2
  exact ⟨svs, rfl, pw_below_drewN HB.out _, RT.below HT.out (pw_below_drewN (Below.refl _ _) _)⟩
theorem cat2 (g2 : Nat) (A1 A2 : Option Addr) (n1 c1 n2 c2 : Nat) (x y zs : List Int) (w : World) (hz : x ++ y = zs) (h : w.heap[g2]? = some (.cells #[.slice A1 n1 c1, .slice A2 n2 c2] 33 (0, 0))) (hn1 : n1 = x.length) (hn2 : n2 = y.length) (h1 : Kd.C (Kd.int .i64) w A1 n1 x) (h2 : Kd.C (Kd.int .i64) w A2 n2 y) (hl : x.length ≤ 1000000 ∧ y.length ≤ 1000000) :
    Calls Try.prog 41 #[.slice (some ⟨g2, 0, none⟩) 2 2] w fun e w' => ∃ v0_ : Value, e = .returned (v0_) ∧ RI w' w.heap.size (fun _ => True) v0_ zs ∧ Below w.heap.size w w' := by
  subst hn1
  subst hn2
  subst hz
  have := Cat.concat g2 2 (fun j => if j = 0 then (A1, c1) else (A2, c2)) [x, y] w (fun j hj => by
    match j, hj with
    | 0, _ => exact ⟨(blk_cell h 0).trans rfl, h1⟩
    | 1, _ => exact ⟨(blk_cell h 1).trans rfl, h2⟩) (by simp; omega) (by simp)
  have e : [x, y].flatten = x ++ y := by simp
  rw [e] at this
  exact this
theorem RT.put_cat {w w1 : World} {base g cap : Nat} {rs : List Rt} {svs : List (Option Addr × Nat)} (h : RT w base g cap rs svs) (hbw : base ≤ w.heap.size) {j : Nat} (hj : j < rs.length) {v0 : Value} {s1 : List Int} (hb : Below w.heap.size w w1) (hR : RI w1 w.heap.size (fun _ => True) v0 s1) :
    ∃ svs', RT (w1.setCell ⟨g, j * 2 + 1, none⟩ v0) base g cap (rs.set j (tr rs j, s1)) svs' ∧ w1.grownBy (w1.setCell ⟨g, j * 2 + 1, none⟩ v0) (some g) := by
  obtain ⟨A1, c1, rfl⟩ := Kd.R_slice hR
  have hg : w.grownBy w1 none := ⟨hb.os, hb.tape, hb.output, hb.size, fun i hi _ => hb.block i hi⟩
  refine ⟨_, RT.put h hj hg (.inl rfl) (Kd.R_lower hR hbw) ?_⟩
  have hbs := Kd.R_base hR
  cases e : (Value.slice A1 s1.length c1).ownBlock with
  | none => exact .inl rfl
  | some b => exact .inr (.inr ⟨b, rfl, hbs b e⟩)
set_option maxHeartbeats 8000000 in
set_option maxRecDepth 100000 in
theorem ta_y (W0 : World) (g cap : Nat) (rs : List Rt) (svs : List (Option Addr × Nat)) (k a i b j n : Int) (w : World) (hb : Below W0.heap.size W0 w) (hT : RT w W0.heap.size g cap rs svs) (ha : 0 ≤ a) (hal : a < rs.length) (hb0 : 0 ≤ b) (hbl : b < rs.length) (hm : ∀ j, (st rs j).length ≤ 1000000) (h : a < b ∧ 0 ≤ i ∧ i ≤ ((st rs a.toNat).length : Int) ∧ 0 ≤ j ∧ j ≤ ((st rs b.toNat).length : Int)) : Calls Try.prog 31 #[.agg #[.int .i64 k, .int .i64 a, .int .i64 i, .int .i64 b, .int .i64 j, .int .i64 n], .slice (some ⟨g, 0, none⟩) rs.length cap] w fun e w' => ∃ svs', e = .returned (.bool (taS rs a b i j).1) ∧ Below W0.heap.size W0 w' ∧ RT w' W0.heap.size g cap (taS rs a b i j).2 svs' := by
  unfold taS
  rw [if_pos h]
  obtain ⟨i, rfl⟩ := Int.eq_ofNat_of_zero_le h.2.1
  obtain ⟨j, rfl⟩ := Int.eq_ofNat_of_zero_le h.2.2.2.1
  have HB := Aside0.mk hb
  have HT := Aside0.mk hT
  have HA := Aside0.mk ha
  have HAL := Aside0.mk hal
  clear hb hT
  have HIa := Aside0.mk (show a.toNat < rs.length by omega)
  have HIb := Aside0.mk (show b.toNat < rs.length by omega)
  obtain ⟨xsa, hxa⟩ : ∃ xs, st rs a.toNat = xs := ⟨_, rfl⟩
  obtain ⟨Aa, ca, hva⟩ := RT.vl_ rs svs a.toNat xsa hxa
  have HXa := Aside0.mk hxa
  have HVa := Aside0.mk hva
  obtain ⟨xsb, hxb⟩ : ∃ xs, st rs b.toNat = xs := ⟨_, rfl⟩
  obtain ⟨Ab, cb, hvb⟩ := RT.vl_ rs svs b.toNat xsb hxb
  have HXb := Aside0.mk hxb
  have HVb := Aside0.mk hvb
  have hma := hm a.toNat
  have hmb := hm b.toNat
  rw [hxa, hxb] at h
  rw [hxa] at hma
  rw [hxb] at hmb
  simp only [Int.toNat_natCast]
  rw [hxa, hxb]
  have HIL := Aside0.mk (show i ≤ xsa.length by omega)
  have HJL := Aside0.mk (show j ≤ xsb.length by omega)
  have HMA := Aside0.mk hma
  have HMB := Aside0.mk hmb
  obtain ⟨y1, hy1⟩ : ∃ y, xsa.take i ++ xsb.drop j = y := ⟨_, rfl⟩
  obtain ⟨y2, hy2⟩ : ∃ y, xsb.take j ++ xsa.drop i = y := ⟨_, rfl⟩
  obtain ⟨r1, hr1⟩ : ∃ r1, rs.set a.toNat (tr rs a.toNat, y1) = r1 := ⟨_, rfl⟩
  have HY1 := Aside0.mk hy1
  have HY2 := Aside0.mk hy2
  have HR1 := Aside0.mk hr1
  rw [hy1, hy2, hr1]
  have HJb := Aside0.mk (show b.toNat < r1.length by rw [← hr1, List.length_set]; exact HIb.out)
  have RA : Aside0 (RI w W0.heap.size (fun _ => True) (.slice Aa xsa.length ca) xsa) := ⟨by have := RT.stops HT.out HIa.out; rw [hva, hxa] at this; exact this⟩
  have RB : Aside0 (RI w W0.heap.size (fun _ => True) (.slice Ab xsb.length cb) xsb) := ⟨by have := RT.stops HT.out HIb.out; rw [hvb, hxb] at this; exact this⟩
  have NA := Aside0.mk (show (Value.slice Aa xsa.length ca).ownBlock ≠ some g from by rw [← hva]; exact RT.own_ne HT.out HIa.out)
  have NB := Aside0.mk (show (Value.slice Ab xsb.length cb).ownBlock ≠ some g from by rw [← hvb]; exact RT.own_ne HT.out HIb.out)
  have LA := Aside0.mk (show xsa.length ≤ ca from (Kd.R_reads' RA.out).2.1)
  have LB := Aside0.mk (show xsb.length ≤ cb from (Kd.R_reads' RB.out).2.1)
  have hs5 : ∀ w, (Instr.slice 33 (.slice Aa xsa.length ca) none (some (.int .i64 (i : Int))) none).run Try.prog w = .ok (.slice Aa i ca) w := fun w => slT w _ _ _ i (by have := LA.out; omega)
  have hs6 : ∀ w, (Instr.slice 33 (.slice Ab xsb.length cb) none (some (.int .i64 (j : Int))) none).run Try.prog w = .ok (.slice Ab j cb) w := fun w => slT w _ _ _ j (by have := LB.out; omega)
  have hs7 : ∀ w, (Instr.slice 33 (.slice Aa xsa.length ca) (some (.int .i64 (i : Int))) none none).run Try.prog w = .ok (.slice (dropA Aa ca i) (xsa.length - i) (ca - i)) w := fun w => slD w _ _ _ i HIL.out
  have hs8 : ∀ w, (Instr.slice 33 (.slice Ab xsb.length cb) (some (.int .i64 (j : Int))) none none).run Try.prog w = .ok (.slice (dropA Ab cb j) (xsb.length - j) (cb - j)) w := fun w => slD w _ _ _ j HJL.out
  have p78 : (0 ≤ a) = True := eq_true (by omega)
  have q78 : (a < 0) = False := eq_false (by omega)
  have p79 : (a < (rs.length : Int)) = True := eq_true (by omega)
  have q79 : ((rs.length : Int) ≤ a) = False := eq_false (by omega)
  have p80 : (0 ≤ b) = True := eq_true (by omega)
  have q80 : (b < 0) = False := eq_false (by omega)
  have p81 : (b < (rs.length : Int)) = True := eq_true (by omega)
  have q81 : ((rs.length : Int) ≤ b) = False := eq_false (by omega)
  have p82 : (b ≤ a) = False := eq_false (by omega)
  have q82 : (a < b) = True := eq_true (by omega)
  have p83 : ((i : Int) < 0) = False := eq_false (by omega)
  have q83 : (0 ≤ (i : Int)) = True := eq_true (by omega)
  have p84 : ((xsa.length : Int) < (i : Int)) = False := eq_false (by omega)
  have q84 : ((i : Int) ≤ (xsa.length : Int)) = True := eq_true (by omega)
  have p85 : ((j : Int) < 0) = False := eq_false (by omega)
  have q85 : (0 ≤ (j : Int)) = True := eq_true (by omega)
  have p86 : ((xsb.length : Int) < (j : Int)) = False := eq_false (by omega)
  have q86 : ((j : Int) ≤ (xsb.length : Int)) = True := eq_true (by omega)
  clear ha hal hb0 hbl h
  clear hxa hva hxb hvb hma hmb hm hy1 hy2 hr1
  go_enter Try.func31, Try.ntmps31
  go_wp2_with (first | ((with_reducible refine gate_dst (N := 2) rfl ?_); refine box_event ?hg (N := 2) ?hd (cs := #[.int .i64 k, .int .i64 a, .int .i64 i, .int .i64 b, .int .i64 j, .int .i64 n]) (t := 29) ?hr ?_; (case hd => rfl); (case hg => rfl); (case hr => first | (go_simp; done) | (go_simp; rfl)); intro gm hg_ wv hbox hb; have BM := Aside0.mk hbox; have GM := Aside0.mk (Nat.le_of_eq hg_.symm); have NG := Aside0.mk (show g < gm by rw [hg_]; exact RT.lt HT.out); replace HB := Aside0.mk (below_step HB.out hb); replace HT := Aside0.mk (RT.below HT.out hb); replace RA := Aside0.mk (Kd.R_below RA.out hb); replace RB := Aside0.mk (Kd.R_below RB.out hb); clear hb hbox hg_; have hm1 : wv.cell? ⟨gm, 1, none⟩ = some (.int .i64 a) := (blk_cell BM.out 1).trans rfl; have hm2 : wv.cell? ⟨gm, 2, none⟩ = some (.int .i64 i) := (blk_cell BM.out 2).trans rfl; have hm3 : wv.cell? ⟨gm, 3, none⟩ = some (.int .i64 b) := (blk_cell BM.out 3).trans rfl; have hm4 : wv.cell? ⟨gm, 4, none⟩ = some (.int .i64 j) := (blk_cell BM.out 4).trans rfl; have hs1 := (RT.cell1 HT.out (j := a.toNat) HIa.out).trans (congrArg some HVa.out); have hs2 := (RT.cell1 HT.out (j := b.toNat) HIb.out).trans (congrArg some HVb.out)))
  go_quiet (fail)
  go_wp2
  replace BM := Aside0.mk (show (wv.drewN nq).heap[gm]? = _ from BM.out)
  replace HT := Aside0.mk (RT.below HT.out (pw_below_drewN (Below.refl _ wv) nq))
  replace HB := Aside0.mk (pw_below_drewN HB.out nq)
  replace RA := Aside0.mk (Kd.R_drewN RA.out nq)
  replace RB := Aside0.mk (Kd.R_drewN RB.out nq)
  clear hm1 hm2 hm3 hm4 hs1 hs2
  generalize wv.drewN nq = wv at BM HT HB RA RB ⊢
  refine start_ (n := 16) (S := fun w' => w'.cell? ⟨gm, 1, none⟩ = some (.int .i64 a) ∧ w'.cell? ⟨gm, 2, none⟩ = some (.int .i64 (i : Int)) ∧ w'.cell? ⟨gm, 4, none⟩ = some (.int .i64 (j : Int))) (ds := [15]) #[false, false, false, false, false, false, false, false, false, false, false, false, false, false, false, false] (by kernel_rfl) rfl rfl ⟨((blk_cell BM.out 1).trans rfl), ((blk_cell BM.out 2).trans rfl), ((blk_cell BM.out 4).trans rfl)⟩ (fun hHeld => ?_)
  replace BM := Aside0.mk (show wv.drew.heap[gm]? = _ from BM.out)
  replace HT := Aside0.mk (RT.drew HT.out)
  replace HB := Aside0.mk (HB.out.drew)
  replace RA := Aside0.mk (show RI wv.drew W0.heap.size (fun _ => True) (.slice Aa xsa.length ca) xsa from Kd.R_drewN RA.out 1)
  replace RB := Aside0.mk (show RI wv.drew W0.heap.size (fun _ => True) (.slice Ab xsb.length cb) xsb from Kd.R_drewN RB.out 1)
  generalize wv.drew = wv at BM HT HB RA RB hHeld ⊢
  refine pure_ (i := 0) (N := some 48) (v := ?_) (a' := ?_) #[true, false, false, false, false, false, false, false, false, false, false, false, false, false, false, false] rfl rfl (by kernel_rfl) (fun _ _ _ h => h) (Or.inl ⟨by rfl, ?_⟩) ?_ ?_
  rotate_left
  · intro w'
    go_simp
    with_reducible rfl
  rotate_left
  · simp only [Act.put, List.setIfInBounds_toArray, List.set_cons_zero, List.set_cons_succ, i64_w, i32_w]
    rfl
  refine pure_ (i := 1) (N := some 49) (v := ?_) (a' := ?_) #[true, true, false, false, false, false, false, false, false, false, false, false, false, false, false, false] rfl rfl (by kernel_rfl) (fun _ _ _ h => h) (Or.inl ⟨by rfl, ?_⟩) ?_ ?_
  rotate_left
  · intro w'
    go_simp
    with_reducible rfl
  rotate_left
  · simp only [Act.put, List.setIfInBounds_toArray, List.set_cons_zero, List.set_cons_succ, i64_w, i32_w]
    rfl
  refine pure_ (i := 3) (N := some 51) (v := ?_) (a' := ?_) #[true, true, false, true, false, false, false, false, false, false, false, false, false, false, false, false] rfl rfl (by kernel_rfl) (fun _ _ _ h => h) (Or.inl ⟨by rfl, ?_⟩) ?_ ?_
  rotate_left
  · intro w'
    go_simp
    with_reducible rfl
  rotate_left
  · simp only [Act.put, List.setIfInBounds_toArray, List.set_cons_zero, List.set_cons_succ, i64_w, i32_w]
    rfl
  refine pure_ (i := 4) (N := some 52) (v := ?_) (a' := ?_) #[true, true, false, true, true, false, false, false, false, false, false, false, false, false, false, false] rfl rfl (by kernel_rfl) (fun _ _ _ h => h) (Or.inl ⟨by rfl, ?_⟩) ?_ ?_
  rotate_left
  · intro w'
    go_simp
    with_reducible rfl
  rotate_left
  · simp only [Act.put, List.setIfInBounds_toArray, List.set_cons_zero, List.set_cons_succ, i64_w, i32_w]
    rfl
  refine pure_ (i := 7) (N := some 55) (v := ?_) (a' := ?_) #[true, true, false, true, true, false, false, true, false, false, false, false, false, false, false, false] rfl rfl (by kernel_rfl) (fun _ _ _ h => h) (Or.inl ⟨by rfl, ?_⟩) ?_ ?_
  rotate_left
  · intro w'
    go_simp
    with_reducible rfl
  rotate_left
  · simp only [Act.put, List.setIfInBounds_toArray, List.set_cons_zero, List.set_cons_succ, i64_w, i32_w]
    rfl
  refine pure_ (i := 8) (N := some 56) (v := ?_) (a' := ?_) #[true, true, false, true, true, false, false, true, true, false, false, false, false, false, false, false] rfl rfl (by kernel_rfl) (fun _ _ _ h => h) (Or.inl ⟨by rfl, ?_⟩) ?_ ?_
  rotate_left
  · intro w'
    go_simp
    with_reducible rfl
  rotate_left
  · simp only [Act.put, List.setIfInBounds_toArray, List.set_cons_zero, List.set_cons_succ, i64_w, i32_w]
    rfl
  refine take_ (i := 2) (N := some 50) (v := ?_) (a' := ?_) #[true, true, true, true, true, false, false, true, true, false, false, false, false, false, false, false] rfl rfl (by kernel_rfl) (fun _ _ _ h => h) (Or.inl ⟨by rfl, ?_⟩) hHeld ?_ ?_
  rotate_left
  · rintro w' ⟨s0, s1, s2⟩
    go_simp
    with_reducible rfl
  rotate_left
  · simp only [Act.put, List.setIfInBounds_toArray, List.set_cons_zero, List.set_cons_succ, i64_w, i32_w]
    rfl
  refine take_ (i := 5) (N := some 53) (v := ?_) (a' := ?_) #[true, true, true, true, true, true, false, true, true, false, false, false, false, false, false, false] rfl rfl (by kernel_rfl) (fun _ _ _ h => h) (Or.inl ⟨by rfl, ?_⟩) hHeld ?_ ?_
  rotate_left
  · rintro w' ⟨s0, s1, s2⟩
    go_simp
    with_reducible rfl
  rotate_left
  · simp only [Act.put, List.setIfInBounds_toArray, List.set_cons_zero, List.set_cons_succ, i64_w, i32_w]
    rfl
  refine pure_ (i := 6) (N := some 54) (v := ?_) (a' := ?_) #[true, true, true, true, true, true, true, true, true, false, false, false, false, false, false, false] rfl rfl (by kernel_rfl) (fun _ _ _ h => h) (Or.inl ⟨by rfl, ?_⟩) ?_ ?_
  rotate_left
  · intro w'
    go_simp
    with_reducible rfl
  rotate_left
  · simp only [Act.put, List.setIfInBounds_toArray, List.set_cons_zero, List.set_cons_succ, i64_w, i32_w]
    rfl
  refine take_ (i := 9) (N := some 57) (v := ?_) (a' := ?_) #[true, true, true, true, true, true, true, true, true, true, false, false, false, false, false, false] rfl rfl (by kernel_rfl) (fun _ _ _ h => h) (Or.inl ⟨by rfl, ?_⟩) hHeld ?_ ?_
  rotate_left
  · rintro w' ⟨s0, s1, s2⟩
    go_simp
    with_reducible rfl
  rotate_left
  · simp only [Act.put, List.setIfInBounds_toArray, List.set_cons_zero, List.set_cons_succ, i64_w, i32_w]
    rfl
  refine pure_ (i := 10) (N := some 58) (v := ?_) (a' := ?_) #[true, true, true, true, true, true, true, true, true, true, true, false, false, false, false, false] rfl rfl (by kernel_rfl) (fun _ _ _ h => h) (Or.inl ⟨by rfl, ?_⟩) ?_ ?_
  rotate_left
  · intro w'
    go_simp
    with_reducible rfl
  rotate_left
  · simp only [Act.put, List.setIfInBounds_toArray, List.set_cons_zero, List.set_cons_succ, i64_w, i32_w]
    rfl
  refine one_ (i := 11) (N := some 59) #[true, true, true, true, true, true, true, true, true, true, true, true, false, false, false, false] rfl rfl (by kernel_rfl) (by decide) (fun K hK => ?_)
  refine value_ (w1 := ?_) (v := ?_) (by rfl) rfl ?_ ?_
  rotate_left 2
  · go_simp
    constructor
    · rfl
    · rfl
  have hl2 : (wv.alloc (.cells #[.slice Aa i ca, .slice (dropA Ab cb j) (xsb.length - j) (cb - j)] 33)).heap[wv.heap.size]? = some (.cells #[.slice Aa i ca, .slice (dropA Ab cb j) (xsb.length - j) (cb - j)] 33 (0, 0)) := blk_new wv _
  have hb : Below wv.heap.size wv (wv.alloc (.cells #[.slice Aa i ca, .slice (dropA Ab cb j) (xsb.length - j) (cb - j)] 33)) := below_alloc (Below.refl _ _) _
  generalize wv.alloc (.cells #[.slice Aa i ca, .slice (dropA Ab cb j) (xsb.length - j) (cb - j)] 33) = w2 at hl2 hb ⊢
  generalize wv.heap.size = g2 at hl2 ⊢
  replace BM := Aside0.mk (blk_below BM.out hb)
  replace HB := Aside0.mk (below_step HB.out hb)
  replace HT := Aside0.mk (RT.below HT.out hb)
  replace RA := Aside0.mk (Kd.R_below RA.out hb)
  replace RB := Aside0.mk (Kd.R_below RB.out hb)
  have HL2 := Aside0.mk hl2
  clear hl2 hb
  refine hK.out _ _ ⟨((blk_cell BM.out 1).trans rfl), ((blk_cell BM.out 2).trans rfl), ((blk_cell BM.out 4).trans rfl)⟩ (fun hHeld => ?_)
  clear hK K
  refine norm_ (a' := ?_) ?_ ?_
  rotate_left
  · show Act.put _ (some 59) _ = _
    simp only [Act.put, List.setIfInBounds_toArray, List.set_cons_zero, List.set_cons_succ, i64_w, i32_w]
    rfl
  refine one_ (i := 12) (N := some 60) #[true, true, true, true, true, true, true, true, true, true, true, true, true, false, false, false] rfl rfl (by kernel_rfl) (by decide) (fun K hK => ?_)
  refine goes_ Try.func41 (by kernel_rfl) rfl #[.slice (some ⟨g2, 0, none⟩) 2 2] (by rfl) rfl rfl (by first | rfl | (simp only [List.map_toArray, List.map_cons, List.map_nil]; rfl)) ?_
  with_reducible refine (cat2 g2 _ _ _ _ _ _ (xsa.take i) (xsb.drop j) y1 _ HY1.out HL2.out (by rw [List.length_take]; have := HIL.out; omega) (by rw [List.length_drop]) (CI_take (Kd.R_reads' RA.out).2.2 HIL.out) (CI_drop (Kd.R_reads' RB.out).2.2 HJL.out LB.out) (by have := HMA.out; have := HMB.out; rw [List.length_take, List.length_drop]; omega)).mono ?_
  rintro e wv ⟨v0, rfl, hR, hb⟩
  obtain ⟨A1, c1, e1⟩ := Kd.R_slice hR
  subst e1
  have HTO := HT
  have HBO := Aside0.mk (below_size HB.out)
  have HT1 := RT.below HT.out hb
  replace BM := Aside0.mk (blk_below BM.out hb)
  replace HB := Aside0.mk (below_step HB.out hb)
  replace RA := Aside0.mk (Kd.R_below RA.out hb)
  replace RB := Aside0.mk (Kd.R_below RB.out hb)
  have hc1 := RT.cell1 HT1 HIa.out
  have hfz := RT.free HT1 (a.toNat * 2 + 1)
  rw [HVa.out] at hc1
  have HRN := Aside0.mk hR
  have HBC := Aside0.mk hb
  clear hR hb HT1 HL2
  refine ⟨_, rfl, ?_⟩
  refine hK.out _ _ ⟨((blk_cell BM.out 1).trans rfl), ((blk_cell BM.out 2).trans rfl), ((blk_cell BM.out 4).trans rfl)⟩ (fun hHeld => ?_)
  clear hK K
  refine norm_ (a' := ?_) ?_ ?_
  rotate_left
  · show Act.put _ (some 60) _ = _
    simp only [Act.put, List.setIfInBounds_toArray, List.set_cons_zero, List.set_cons_succ, i64_w, i32_w]
    rfl
  refine pure_ (i := 13) (N := some 61) (v := ?_) (a' := ?_) #[true, true, true, true, true, true, true, true, true, true, true, true, true, true, false, false] rfl rfl (by kernel_rfl) (fun _ _ _ h => h) (Or.inl ⟨by rfl, ?_⟩) ?_ ?_
  rotate_left
  · intro w'
    go_simp
    with_reducible rfl
  rotate_left
  · simp only [Act.put, List.setIfInBounds_toArray, List.set_cons_zero, List.set_cons_succ, i64_w, i32_w]
    rfl
  refine pure_ (i := 14) (N := some 62) (v := ?_) (a' := ?_) #[true, true, true, true, true, true, true, true, true, true, true, true, true, true, true, false] rfl rfl (by kernel_rfl) (fun _ _ _ h => h) (Or.inl ⟨by rfl, ?_⟩) ?_ ?_
  rotate_left
  · intro w'
    go_simp
    with_reducible rfl
  rotate_left
  · simp only [Act.put, List.setIfInBounds_toArray, List.set_cons_zero, List.set_cons_succ, i64_w, i32_w]
    rfl
  refine last_ (i := 15) (N := none) #[true, true, true, true, true, true, true, true, true, true, true, true, true, true, true, true] rfl rfl (by kernel_rfl) (by decide) (fun K hK => ?_)
  refine skip_ (w1 := ?_) (by rfl) rfl ?_ ?_
  rotate_left
  · go_simp
    rfl
  clear hc1 hfz
  obtain ⟨svs1, hT2, hG2⟩ := RT.put_cat HTO.out HBO.out HIa.out HBC.out HRN.out
  rw [HR1.out] at hT2
  replace HB := Aside0.mk (HB.out.grown hG2 (below_size HB.out) (fun z hz => by injection hz with hz; exact hz ▸ HTO.out.2.1))
  replace HT := Aside0.mk hT2
  replace BM := Aside0.mk (blk_grown BM.out hG2 (fun e => by injection e with e; have e2 : gm = g := e; have := NG.out; omega))
  replace RA := Aside0.mk (RI_far (i := a.toNat * 2 + 1) (u := .slice A1 y1.length c1) RA.out NA.out)
  replace RB := Aside0.mk (RI_far (i := a.toNat * 2 + 1) (u := .slice A1 y1.length c1) RB.out NB.out)
  clear hT2 hG2 HRN HBC HTO HBO
  generalize wv.setCell ⟨g, a.toNat * 2 + 1, none⟩ (.slice A1 y1.length c1) = wv at HT BM HB RA RB ⊢
  refine hK.out _ _ ?_
  clear hK K
  refine done_ (by kernel_rfl) ?_
  go_wp2
  refine start_ (n := 16) (S := fun w' => w'.cell? ⟨gm, 3, none⟩ = some (.int .i64 b) ∧ w'.cell? ⟨gm, 4, none⟩ = some (.int .i64 (j : Int)) ∧ w'.cell? ⟨gm, 2, none⟩ = some (.int .i64 (i : Int))) (ds := [15]) #[false, false, false, false, false, false, false, false, false, false, false, false, false, false, false, false] (by kernel_rfl) rfl rfl ⟨((blk_cell BM.out 3).trans rfl), ((blk_cell BM.out 4).trans rfl), ((blk_cell BM.out 2).trans rfl)⟩ (fun hHeld => ?_)
  replace BM := Aside0.mk (show wv.drew.heap[gm]? = _ from BM.out)
  replace HT := Aside0.mk (RT.drew HT.out)
  replace HB := Aside0.mk (HB.out.drew)
  replace RA := Aside0.mk (show RI wv.drew W0.heap.size (fun _ => True) (.slice Aa xsa.length ca) xsa from Kd.R_drewN RA.out 1)
  replace RB := Aside0.mk (show RI wv.drew W0.heap.size (fun _ => True) (.slice Ab xsb.length cb) xsb from Kd.R_drewN RB.out 1)
  generalize wv.drew = wv at BM HT HB RA RB hHeld ⊢
  refine pure_ (i := 0) (N := some 63) (v := ?_) (a' := ?_) #[true, false, false, false, false, false, false, false, false, false, false, false, false, false, false, false] rfl rfl (by kernel_rfl) (fun _ _ _ h => h) (Or.inl ⟨by rfl, ?_⟩) ?_ ?_
  rotate_left
  · intro w'
    go_simp
    with_reducible rfl
  rotate_left
  · simp only [Act.put, List.setIfInBounds_toArray, List.set_cons_zero, List.set_cons_succ, i64_w, i32_w]
    rfl
  refine pure_ (i := 1) (N := some 64) (v := ?_) (a' := ?_) #[true, true, false, false, false, false, false, false, false, false, false, false, false, false, false, false] rfl rfl (by kernel_rfl) (fun _ _ _ h => h) (Or.inl ⟨by rfl, ?_⟩) ?_ ?_
  rotate_left
  · intro w'
    go_simp
    with_reducible rfl
  rotate_left
  · simp only [Act.put, List.setIfInBounds_toArray, List.set_cons_zero, List.set_cons_succ, i64_w, i32_w]
    rfl
  refine pure_ (i := 3) (N := some 66) (v := ?_) (a' := ?_) #[true, true, false, true, false, false, false, false, false, false, false, false, false, false, false, false] rfl rfl (by kernel_rfl) (fun _ _ _ h => h) (Or.inl ⟨by rfl, ?_⟩) ?_ ?_
  rotate_left
  · intro w'
    go_simp
    with_reducible rfl
  rotate_left
  · simp only [Act.put, List.setIfInBounds_toArray, List.set_cons_zero, List.set_cons_succ, i64_w, i32_w]
    rfl
  refine pure_ (i := 4) (N := some 67) (v := ?_) (a' := ?_) #[true, true, false, true, true, false, false, false, false, false, false, false, false, false, false, false] rfl rfl (by kernel_rfl) (fun _ _ _ h => h) (Or.inl ⟨by rfl, ?_⟩) ?_ ?_
  rotate_left
  · intro w'
    go_simp
    with_reducible rfl
  rotate_left
  · simp only [Act.put, List.setIfInBounds_toArray, List.set_cons_zero, List.set_cons_succ, i64_w, i32_w]
    rfl
  refine pure_ (i := 7) (N := some 70) (v := ?_) (a' := ?_) #[true, true, false, true, true, false, false, true, false, false, false, false, false, false, false, false] rfl rfl (by kernel_rfl) (fun _ _ _ h => h) (Or.inl ⟨by rfl, ?_⟩) ?_ ?_
  rotate_left
  · intro w'
    go_simp
    with_reducible rfl
  rotate_left
  · simp only [Act.put, List.setIfInBounds_toArray, List.set_cons_zero, List.set_cons_succ, i64_w, i32_w]
    rfl
  refine pure_ (i := 8) (N := some 71) (v := ?_) (a' := ?_) #[true, true, false, true, true, false, false, true, true, false, false, false, false, false, false, false] rfl rfl (by kernel_rfl) (fun _ _ _ h => h) (Or.inl ⟨by rfl, ?_⟩) ?_ ?_
  rotate_left
  · intro w'
    go_simp
    with_reducible rfl
  rotate_left
  · simp only [Act.put, List.setIfInBounds_toArray, List.set_cons_zero, List.set_cons_succ, i64_w, i32_w]
    rfl
  refine take_ (i := 2) (N := some 65) (v := ?_) (a' := ?_) #[true, true, true, true, true, false, false, true, true, false, false, false, false, false, false, false] rfl rfl (by kernel_rfl) (fun _ _ _ h => h) (Or.inl ⟨by rfl, ?_⟩) hHeld ?_ ?_
  rotate_left
  · rintro w' ⟨s0, s1, s2⟩
    go_simp
    with_reducible rfl
  rotate_left
  · simp only [Act.put, List.setIfInBounds_toArray, List.set_cons_zero, List.set_cons_succ, i64_w, i32_w]
    rfl
  refine take_ (i := 5) (N := some 68) (v := ?_) (a' := ?_) #[true, true, true, true, true, true, false, true, true, false, false, false, false, false, false, false] rfl rfl (by kernel_rfl) (fun _ _ _ h => h) (Or.inl ⟨by rfl, ?_⟩) hHeld ?_ ?_
  rotate_left
  · rintro w' ⟨s0, s1, s2⟩
    go_simp
    with_reducible rfl
  rotate_left
  · simp only [Act.put, List.setIfInBounds_toArray, List.set_cons_zero, List.set_cons_succ, i64_w, i32_w]
    rfl
  refine pure_ (i := 6) (N := some 69) (v := ?_) (a' := ?_) #[true, true, true, true, true, true, true, true, true, false, false, false, false, false, false, false] rfl rfl (by kernel_rfl) (fun _ _ _ h => h) (Or.inl ⟨by rfl, ?_⟩) ?_ ?_
  rotate_left
  · intro w'
    go_simp
    with_reducible rfl
  rotate_left
  · simp only [Act.put, List.setIfInBounds_toArray, List.set_cons_zero, List.set_cons_succ, i64_w, i32_w]
    rfl
  refine take_ (i := 9) (N := some 72) (v := ?_) (a' := ?_) #[true, true, true, true, true, true, true, true, true, true, false, false, false, false, false, false] rfl rfl (by kernel_rfl) (fun _ _ _ h => h) (Or.inl ⟨by rfl, ?_⟩) hHeld ?_ ?_
  rotate_left
  · rintro w' ⟨s0, s1, s2⟩
    go_simp
    with_reducible rfl
  rotate_left
  · simp only [Act.put, List.setIfInBounds_toArray, List.set_cons_zero, List.set_cons_succ, i64_w, i32_w]
    rfl
  refine pure_ (i := 10) (N := some 73) (v := ?_) (a' := ?_) #[true, true, true, true, true, true, true, true, true, true, true, false, false, false, false, false] rfl rfl (by kernel_rfl) (fun _ _ _ h => h) (Or.inl ⟨by rfl, ?_⟩) ?_ ?_
  rotate_left
  · intro w'
    go_simp
    with_reducible rfl
  rotate_left
  · simp only [Act.put, List.setIfInBounds_toArray, List.set_cons_zero, List.set_cons_succ, i64_w, i32_w]
    rfl
  refine one_ (i := 11) (N := some 74) #[true, true, true, true, true, true, true, true, true, true, true, true, false, false, false, false] rfl rfl (by kernel_rfl) (by decide) (fun K hK => ?_)
  refine value_ (w1 := ?_) (v := ?_) (by rfl) rfl ?_ ?_
  rotate_left 2
  · go_simp
    constructor
    · rfl
    · rfl
  have hl2 : (wv.alloc (.cells #[.slice Ab j cb, .slice (dropA Aa ca i) (xsa.length - i) (ca - i)] 33)).heap[wv.heap.size]? = some (.cells #[.slice Ab j cb, .slice (dropA Aa ca i) (xsa.length - i) (ca - i)] 33 (0, 0)) := blk_new wv _
  have hb : Below wv.heap.size wv (wv.alloc (.cells #[.slice Ab j cb, .slice (dropA Aa ca i) (xsa.length - i) (ca - i)] 33)) := below_alloc (Below.refl _ _) _
  generalize wv.alloc (.cells #[.slice Ab j cb, .slice (dropA Aa ca i) (xsa.length - i) (ca - i)] 33) = w2 at hl2 hb ⊢
  generalize wv.heap.size = g2 at hl2 ⊢
  replace BM := Aside0.mk (blk_below BM.out hb)
  replace HB := Aside0.mk (below_step HB.out hb)
  replace HT := Aside0.mk (RT.below HT.out hb)
  replace RA := Aside0.mk (Kd.R_below RA.out hb)
  replace RB := Aside0.mk (Kd.R_below RB.out hb)
  have HL2 := Aside0.mk hl2
  clear hl2 hb
  refine hK.out _ _ ⟨((blk_cell BM.out 3).trans rfl), ((blk_cell BM.out 4).trans rfl), ((blk_cell BM.out 2).trans rfl)⟩ (fun hHeld => ?_)
  clear hK K
  refine norm_ (a' := ?_) ?_ ?_
  rotate_left
  · show Act.put _ (some 74) _ = _
    simp only [Act.put, List.setIfInBounds_toArray, List.set_cons_zero, List.set_cons_succ, i64_w, i32_w]
    rfl
  refine one_ (i := 12) (N := some 75) #[true, true, true, true, true, true, true, true, true, true, true, true, true, false, false, false] rfl rfl (by kernel_rfl) (by decide) (fun K hK => ?_)
  refine goes_ Try.func41 (by kernel_rfl) rfl #[.slice (some ⟨g2, 0, none⟩) 2 2] (by rfl) rfl rfl (by first | rfl | (simp only [List.map_toArray, List.map_cons, List.map_nil]; rfl)) ?_
  with_reducible refine (cat2 g2 _ _ _ _ _ _ (xsb.take j) (xsa.drop i) y2 _ HY2.out HL2.out (by rw [List.length_take]; have := HJL.out; omega) (by rw [List.length_drop]) (CI_take (Kd.R_reads' RB.out).2.2 HJL.out) (CI_drop (Kd.R_reads' RA.out).2.2 HIL.out LA.out) (by have := HMA.out; have := HMB.out; rw [List.length_take, List.length_drop]; omega)).mono ?_
  rintro e wv ⟨v0, rfl, hR, hb⟩
  obtain ⟨A1, c1, e1⟩ := Kd.R_slice hR
  subst e1
  have HTO := HT
  have HBO := Aside0.mk (below_size HB.out)
  have HT1 := RT.below HT.out hb
  replace BM := Aside0.mk (blk_below BM.out hb)
  replace HB := Aside0.mk (below_step HB.out hb)
  replace RA := Aside0.mk (Kd.R_below RA.out hb)
  replace RB := Aside0.mk (Kd.R_below RB.out hb)
  have hc1 := RT.cell1 HT1 HJb.out
  have hfz := RT.free HT1 (b.toNat * 2 + 1)
  have HRN := Aside0.mk hR
  have HBC := Aside0.mk hb
  clear hR hb HT1 HL2
  refine ⟨_, rfl, ?_⟩
  refine hK.out _ _ ⟨((blk_cell BM.out 3).trans rfl), ((blk_cell BM.out 4).trans rfl), ((blk_cell BM.out 2).trans rfl)⟩ (fun hHeld => ?_)
  clear hK K
  refine norm_ (a' := ?_) ?_ ?_
  rotate_left
  · show Act.put _ (some 75) _ = _
    simp only [Act.put, List.setIfInBounds_toArray, List.set_cons_zero, List.set_cons_succ, i64_w, i32_w]
    rfl
  refine pure_ (i := 13) (N := some 76) (v := ?_) (a' := ?_) #[true, true, true, true, true, true, true, true, true, true, true, true, true, true, false, false] rfl rfl (by kernel_rfl) (fun _ _ _ h => h) (Or.inl ⟨by rfl, ?_⟩) ?_ ?_
  rotate_left
  · intro w'
    go_simp
    with_reducible rfl
  rotate_left
  · simp only [Act.put, List.setIfInBounds_toArray, List.set_cons_zero, List.set_cons_succ, i64_w, i32_w]
    rfl
  refine pure_ (i := 14) (N := some 77) (v := ?_) (a' := ?_) #[true, true, true, true, true, true, true, true, true, true, true, true, true, true, true, false] rfl rfl (by kernel_rfl) (fun _ _ _ h => h) (Or.inl ⟨by rfl, ?_⟩) ?_ ?_
  rotate_left
  · intro w'
    go_simp
    with_reducible rfl
  rotate_left
  · simp only [Act.put, List.setIfInBounds_toArray, List.set_cons_zero, List.set_cons_succ, i64_w, i32_w]
    rfl
  refine last_ (i := 15) (N := none) #[true, true, true, true, true, true, true, true, true, true, true, true, true, true, true, true] rfl rfl (by kernel_rfl) (by decide) (fun K hK => ?_)
  refine skip_ (w1 := ?_) (by rfl) rfl ?_ ?_
  rotate_left
  · go_simp
    rfl
  clear hc1 hfz
  obtain ⟨svs2, hT2, hG2⟩ := RT.put_cat HTO.out HBO.out HJb.out HBC.out HRN.out
  replace HB := Aside0.mk (HB.out.grown hG2 (below_size HB.out) (fun z hz => by injection hz with hz; exact hz ▸ HTO.out.2.1))
  replace HT := Aside0.mk hT2
  replace BM := Aside0.mk (blk_grown BM.out hG2 (fun e => by injection e with e; have e2 : gm = g := e; have := NG.out; omega))
  replace RA := Aside0.mk (RI_far (i := b.toNat * 2 + 1) (u := .slice A1 y2.length c1) RA.out NA.out)
  replace RB := Aside0.mk (RI_far (i := b.toNat * 2 + 1) (u := .slice A1 y2.length c1) RB.out NB.out)
  clear hT2 hG2 HRN HBC HTO HBO
  generalize wv.setCell ⟨g, b.toNat * 2 + 1, none⟩ (.slice A1 y2.length c1) = wv at HT BM HB RA RB ⊢
  refine hK.out _ _ ?_
  clear hK K
  refine done_ (by kernel_rfl) ?_
  go_wp2
  first | go_ret | go_ret2
  exact ⟨svs2, rfl, HB.out, HT.out⟩
end Go.Proofs.Ytcofibbgdnbejaa.Mv7
