/- move.exchange over routes in memory. -/
import Derived.Test.YtcofibbgdnbejaaMvA
import Derived.RegionTactic
import Derived.BigRegion
namespace Go.Proofs.Ytcofibbgdnbejaa.Mv5
open Go.RowKit Go.Proofs.YtcofibbgdnbejaaW.PrintWords Go.Proofs.YtcofibbgdnbejaaW.PrintLast Go.Proofs.YtcofibbgdnbejaaW.PrintMore Go.Proofs.Ytcofibbgdnbejaa.Ints Go.Proofs.Ytcofibbgdnbejaa.Mv1 Go.Proofs.Ytcofibbgdnbejaa.Mv2 Go.Proofs.Ytcofibbgdnbejaa.Mv3 Go.Proofs.Ytcofibbgdnbejaa.Mv4
attribute [local go_sem] max2_int min2_int max_two min_two max_three min_three max_four min_four
set_option linter.unusedVariables false
set_option linter.unusedSimpArgs false
section
variable {w w1 : World} {base g cap : Nat} {rs : List Rt} {svs : List (Option Addr × Nat)}
theorem st_self {j : Nat} (hj : j < rs.length) (n : Int) (s1 : List Int) : st (rs.set j (n, s1)) j = s1 := by unfold st; rw [Mv2.getD_set_self _ _ _ _ hj]
theorem st_ne {i j : Nat} (h : i ≠ j) (r : Rt) : st (rs.set j r) i = st rs i := by unfold st; rw [Mv2.getD_set_ne _ _ _ _ _ h]
theorem vl_set {j : Nat} (hj : j < rs.length) {s1 : List Int} (hl : s1.length = (st rs j).length) (i : Nat) : vl (rs.set j (tr rs j, s1)) svs i = vl rs svs i := by
  unfold vl
  by_cases e : i = j
  · subst e; rw [st_self hj, hl]
  · rw [st_ne e]
theorem RT.drew (h : RT w base g cap rs svs) : RT w.drew base g cap rs svs := RT.below h (Below.mk rfl rfl rfl (Nat.le_refl _) (fun _ _ => rfl))
theorem set_eq (xs : List Int) (i : Nat) (u : Int) (hi : i < xs.length) : xs.take i ++ [u] ++ xs.drop (i + [u].length) = xs.set i u := by
  rw [List.set_eq_take_append_cons_drop, if_pos hi]
  simp
theorem RT.cellset (h : RT w base g cap rs svs) {j : Nat} (hj : j < rs.length) {xs : List Int} (hx : st rs j = xs) {b c : Nat} (hv : vl rs svs j = .slice (some ⟨b, 0, none⟩) xs.length c) {i : Nat} (hi : i < xs.length) (u : Int) :
    RT (w.setCell ⟨b, i, none⟩ (.int .i64 u)) base g cap (rs.set j (tr rs j, xs.set i u)) svs := by
  have ho := ownAt h hj hx hv
  have hs := own_splice (n := 0) ho (ys := [u]) i (by simp; omega) 0 xs.length (Nat.le_refl _)
  rw [set_eq xs i u hi, List.take_of_length_le (by simp)] at hs
  have hs2 : (w.setCell ⟨b, i, none⟩ (.int .i64 u)).ownsRow base 3 1 (.slice (some ⟨b, 0, none⟩) xs.length c) xs.length (es (xs.set i u)) := hs
  refine RT.inplace h hj (by rw [hx]; simp) (by rw [hv]; exact grown_set w b i [_]) ?_
  rw [hv]
  have := RI_of hs2 (show xs.length = (xs.set i u).length by simp)
  exact this
theorem RT.cellat (h : RT w base g cap rs svs) {j : Nat} (hj : j < rs.length) {xs : List Int} (hx : st rs j = xs) {b c : Nat} (hv : vl rs svs j = .slice (some ⟨b, 0, none⟩) xs.length c) {i : Nat} (hi : i < xs.length) :
    w.cell? ⟨b, i, none⟩ = some (.int .i64 (xs.getD i 0)) ∧ w.frozen? ⟨b, i, none⟩ = false := by
  rcases (ownAt h hj hx hv).2 with ⟨h1, _⟩ | ⟨g', cap', cur, hv, hbg, hg, hnc, hcm, hcs, hct⟩
  · cases h1
  · simp only [Value.slice.injEq, Option.some.injEq, Addr.mk.injEq, and_true, true_and] at hv
    obtain ⟨rfl, rfl⟩ := hv
    rw [Nat.mul_one] at hct
    have := cells_getD hg hct 0 i (by simpa using hi)
    exact ⟨by simpa using this, blk_frozen hg i⟩
theorem RT.swap2 (h : RT w base g cap rs svs) (q : Nat) {ja jb : Nat} (hja : ja < rs.length) (hjb : jb < rs.length) {xsa xsb : List Int} (hxa : st rs ja = xsa) (hxb : st rs jb = xsb) {ba ca bb cb : Nat} (hva : vl rs svs ja = .slice (some ⟨ba, 0, none⟩) xsa.length ca) (hvb : vl rs svs jb = .slice (some ⟨bb, 0, none⟩) xsb.length cb) {i j : Nat} (hi : i < xsa.length) (hj : j < xsb.length) (hne : ja ≠ jb) {x y : Int} :
    RT (((w.drewN q).setCell ⟨ba, i, none⟩ (.int .i64 y)).setCell ⟨bb, j, none⟩ (.int .i64 x)) base g cap ((rs.set ja (tr rs ja, xsa.set i y)).set jb (tr (rs.set ja (tr rs ja, xsa.set i y)) jb, (st (rs.set ja (tr rs ja, xsa.set i y)) jb).set j x)) svs := by
  have h1 := RT.below h (pw_below_drewN (Below.refl _ w) q)
  have h2 := RT.cellset h1 hja hxa hva hi y
  have e : st (rs.set ja (tr rs ja, xsa.set i y)) jb = xsb := by rw [st_ne (Ne.symm hne)]; exact hxb
  rw [e]
  exact RT.cellset h2 (by rw [List.length_set]; exact hjb) e (by rw [vl_set hja (by rw [hxa]; simp)]; exact hvb) hj x
theorem RT.swap1 (h : RT w base g cap rs svs) (q : Nat) {ja : Nat} (hja : ja < rs.length) {xsa : List Int} (hxa : st rs ja = xsa) {ba ca : Nat} (hva : vl rs svs ja = .slice (some ⟨ba, 0, none⟩) xsa.length ca) {i j : Nat} (hi : i < xsa.length) (hj : j < xsa.length) {x y : Int} :
    RT (((w.drewN q).setCell ⟨ba, i, none⟩ (.int .i64 y)).setCell ⟨ba, j, none⟩ (.int .i64 x)) base g cap ((rs.set ja (tr rs ja, xsa.set i y)).set ja (tr (rs.set ja (tr rs ja, xsa.set i y)) ja, (st (rs.set ja (tr rs ja, xsa.set i y)) ja).set j x)) svs := by
  have h1 := RT.below h (pw_below_drewN (Below.refl _ w) q)
  have h2 := RT.cellset h1 hja hxa hva hi y
  have e : st (rs.set ja (tr rs ja, xsa.set i y)) ja = xsa.set i y := st_self hja _ _
  rw [e]
  exact RT.cellset h2 (by rw [List.length_set]; exact hja) e (by rw [vl_set hja (by rw [hxa]; simp), List.length_set]; exact hva) (by rw [List.length_set]; exact hj) x
end
def exS (rs : List Rt) (a b i j : Int) : Bool × List Rt :=
  if (a < b ∨ a = b ∧ i < j) ∧ 0 ≤ i ∧ i < ((st rs a.toNat).length : Int) ∧ 0 ≤ j ∧ j < ((st rs b.toNat).length : Int) then
    (true, let r1 := rs.set a.toNat (tr rs a.toNat, (st rs a.toNat).set i.toNat ((st rs b.toNat).getD j.toNat 0)); r1.set b.toNat (tr r1 b.toNat, (st r1 b.toNat).set j.toNat ((st rs a.toNat).getD i.toNat 0)))
  else (false, rs)
set_option maxHeartbeats 8000000 in
set_option maxRecDepth 100000 in
theorem ex_n1 (W0 : World) (g cap : Nat) (rs : List Rt) (svs : List (Option Addr × Nat)) (k a i b j n : Int) (w : World) (hb : Below W0.heap.size W0 w) (hT : RT w W0.heap.size g cap rs svs) (ha : 0 ≤ a) (hal : a < rs.length) (hb0 : 0 ≤ b) (hbl : b < rs.length) (h : b < a) : Calls Try.prog 30 #[.agg #[.int .i64 k, .int .i64 a, .int .i64 i, .int .i64 b, .int .i64 j, .int .i64 n], .slice (some ⟨g, 0, none⟩) rs.length cap] w fun e w' => ∃ svs', e = .returned (.bool (exS rs a b i j).1) ∧ Below W0.heap.size W0 w' ∧ RT w' W0.heap.size g cap (exS rs a b i j).2 svs' := by
  have HB := Aside0.mk hb
  have HT := Aside0.mk hT
  have HA := Aside0.mk ha
  have HAL := Aside0.mk hal
  clear hb hT
  have HIa := Aside0.mk (show a.toNat < rs.length by omega)
  have HIb := Aside0.mk (show b.toNat < rs.length by omega)
  obtain ⟨xsa, hxa⟩ : ∃ xs, st rs a.toNat = xs := ⟨_, rfl⟩
  obtain ⟨Aa, ca, hva⟩ := RT.vl_ rs svs a.toNat xsa hxa
  have HXa := Aside0.mk hxa
  have HVa := Aside0.mk hva
  obtain ⟨xsb, hxb⟩ : ∃ xs, st rs b.toNat = xs := ⟨_, rfl⟩
  obtain ⟨Ab, cb, hvb⟩ := RT.vl_ rs svs b.toNat xsb hxb
  have HXb := Aside0.mk hxb
  have HVb := Aside0.mk hvb
  (try rw [hxa] at h)
  (try rw [hxb] at h)
  have HR := Aside0.mk (show (false, rs) = exS rs a b i j by unfold exS; rw [if_neg (by rw [hxa, hxb]; omega)])
  rw [← HR.out]
  have p25 : (0 ≤ a) = True := eq_true (by omega)
  have q25 : (a < 0) = False := eq_false (by omega)
  have p26 : (a < (rs.length : Int)) = True := eq_true (by omega)
  have q26 : ((rs.length : Int) ≤ a) = False := eq_false (by omega)
  have p27 : (0 ≤ b) = True := eq_true (by omega)
  have q27 : (b < 0) = False := eq_false (by omega)
  have p28 : (b < (rs.length : Int)) = True := eq_true (by omega)
  have q28 : ((rs.length : Int) ≤ b) = False := eq_false (by omega)
  have p29 : (a ≤ b) = False := eq_false (by omega)
  have q29 : (b < a) = True := eq_true (by omega)
  clear ha hal hb0 hbl h
  clear hxa hva hxb hvb
  go_enter Try.func30, Try.ntmps30
  go_wp2_with (first | ((with_reducible refine gate_dst (N := 2) rfl ?_); refine box_event ?hg (N := 2) ?hd (cs := #[.int .i64 k, .int .i64 a, .int .i64 i, .int .i64 b, .int .i64 j, .int .i64 n]) (t := 29) ?hr ?_; (case hd => rfl); (case hg => rfl); (case hr => first | (go_simp; done) | (go_simp; rfl)); intro gm hg_ wv hbox hb; have BM := Aside0.mk hbox; have GM := Aside0.mk (Nat.le_of_eq hg_.symm); have NG := Aside0.mk (show g < gm by rw [hg_]; exact RT.lt HT.out); replace HB := Aside0.mk (below_step HB.out hb); replace HT := Aside0.mk (RT.below HT.out hb); clear hb hbox hg_; have hm1 : wv.cell? ⟨gm, 1, none⟩ = some (.int .i64 a) := (blk_cell BM.out 1).trans rfl; have hm3 : wv.cell? ⟨gm, 3, none⟩ = some (.int .i64 b) := (blk_cell BM.out 3).trans rfl; have hs1 := (RT.cell1 HT.out (j := a.toNat) HIa.out).trans (congrArg some HVa.out); have hs2 := (RT.cell1 HT.out (j := b.toNat) HIb.out).trans (congrArg some HVb.out)))
  go_quiet (fail)
  go_wp2
  first | go_ret | go_ret2
  exact ⟨svs, rfl, pw_below_drewN HB.out _, RT.below HT.out (pw_below_drewN (Below.refl _ _) _)⟩
set_option maxHeartbeats 8000000 in
set_option maxRecDepth 100000 in
theorem ex_n2 (W0 : World) (g cap : Nat) (rs : List Rt) (svs : List (Option Addr × Nat)) (k a i b j n : Int) (w : World) (hb : Below W0.heap.size W0 w) (hT : RT w W0.heap.size g cap rs svs) (ha : 0 ≤ a) (hal : a < rs.length) (hb0 : 0 ≤ b) (hbl : b < rs.length) (h : a = b ∧ j ≤ i) : Calls Try.prog 30 #[.agg #[.int .i64 k, .int .i64 a, .int .i64 i, .int .i64 b, .int .i64 j, .int .i64 n], .slice (some ⟨g, 0, none⟩) rs.length cap] w fun e w' => ∃ svs', e = .returned (.bool (exS rs a b i j).1) ∧ Below W0.heap.size W0 w' ∧ RT w' W0.heap.size g cap (exS rs a b i j).2 svs' := by
  have HB := Aside0.mk hb
  have HT := Aside0.mk hT
  have HA := Aside0.mk ha
  have HAL := Aside0.mk hal
  clear hb hT
  have HIa := Aside0.mk (show a.toNat < rs.length by omega)
  have HIb := Aside0.mk (show b.toNat < rs.length by omega)
  obtain ⟨xsa, hxa⟩ : ∃ xs, st rs a.toNat = xs := ⟨_, rfl⟩
  obtain ⟨Aa, ca, hva⟩ := RT.vl_ rs svs a.toNat xsa hxa
  have HXa := Aside0.mk hxa
  have HVa := Aside0.mk hva
  obtain ⟨xsb, hxb⟩ : ∃ xs, st rs b.toNat = xs := ⟨_, rfl⟩
  obtain ⟨Ab, cb, hvb⟩ := RT.vl_ rs svs b.toNat xsb hxb
  have HXb := Aside0.mk hxb
  have HVb := Aside0.mk hvb
  (try rw [hxa] at h)
  (try rw [hxb] at h)
  have HR := Aside0.mk (show (false, rs) = exS rs a b i j by unfold exS; rw [if_neg (by rw [hxa, hxb]; omega)])
  rw [← HR.out]
  have p30 : (0 ≤ a) = True := eq_true (by omega)
  have q30 : (a < 0) = False := eq_false (by omega)
  have p31 : (a < (rs.length : Int)) = True := eq_true (by omega)
  have q31 : ((rs.length : Int) ≤ a) = False := eq_false (by omega)
  have p32 : (0 ≤ b) = True := eq_true (by omega)
  have q32 : (b < 0) = False := eq_false (by omega)
  have p33 : (b < (rs.length : Int)) = True := eq_true (by omega)
  have q33 : ((rs.length : Int) ≤ b) = False := eq_false (by omega)
  have p34 : (a ≤ b) = True := eq_true (by omega)
  have q34 : (b < a) = False := eq_false (by omega)
  have p35 : (a = b) = True := eq_true (by omega)
  have q35 : (a == b) = true := beq_iff_eq.mpr (by omega)
  have r35 : (a != b) = false := by rw [bne, q35]; rfl
  have p36 : (j ≤ i) = True := eq_true (by omega)
  have q36 : (i < j) = False := eq_false (by omega)
  clear ha hal hb0 hbl h
  clear hxa hva hxb hvb
  go_enter Try.func30, Try.ntmps30
  go_wp2_with (first | ((with_reducible refine gate_dst (N := 2) rfl ?_); refine box_event ?hg (N := 2) ?hd (cs := #[.int .i64 k, .int .i64 a, .int .i64 i, .int .i64 b, .int .i64 j, .int .i64 n]) (t := 29) ?hr ?_; (case hd => rfl); (case hg => rfl); (case hr => first | (go_simp; done) | (go_simp; rfl)); intro gm hg_ wv hbox hb; have BM := Aside0.mk hbox; have GM := Aside0.mk (Nat.le_of_eq hg_.symm); have NG := Aside0.mk (show g < gm by rw [hg_]; exact RT.lt HT.out); replace HB := Aside0.mk (below_step HB.out hb); replace HT := Aside0.mk (RT.below HT.out hb); clear hb hbox hg_; have hm1 : wv.cell? ⟨gm, 1, none⟩ = some (.int .i64 a) := (blk_cell BM.out 1).trans rfl; have hm2 : wv.cell? ⟨gm, 2, none⟩ = some (.int .i64 i) := (blk_cell BM.out 2).trans rfl; have hm3 : wv.cell? ⟨gm, 3, none⟩ = some (.int .i64 b) := (blk_cell BM.out 3).trans rfl; have hm4 : wv.cell? ⟨gm, 4, none⟩ = some (.int .i64 j) := (blk_cell BM.out 4).trans rfl; have hs1 := (RT.cell1 HT.out (j := a.toNat) HIa.out).trans (congrArg some HVa.out); have hs2 := (RT.cell1 HT.out (j := b.toNat) HIb.out).trans (congrArg some HVb.out)))
  go_quiet (fail)
  go_wp2
  first | go_ret | go_ret2
  exact ⟨svs, rfl, pw_below_drewN HB.out _, RT.below HT.out (pw_below_drewN (Below.refl _ _) _)⟩
set_option maxHeartbeats 8000000 in
set_option maxRecDepth 100000 in
theorem ex_n30 (W0 : World) (g cap : Nat) (rs : List Rt) (svs : List (Option Addr × Nat)) (k a i b j n : Int) (w : World) (hb : Below W0.heap.size W0 w) (hT : RT w W0.heap.size g cap rs svs) (ha : 0 ≤ a) (hal : a < rs.length) (hb0 : 0 ≤ b) (hbl : b < rs.length) (h : (a < b) ∧ i < 0) : Calls Try.prog 30 #[.agg #[.int .i64 k, .int .i64 a, .int .i64 i, .int .i64 b, .int .i64 j, .int .i64 n], .slice (some ⟨g, 0, none⟩) rs.length cap] w fun e w' => ∃ svs', e = .returned (.bool (exS rs a b i j).1) ∧ Below W0.heap.size W0 w' ∧ RT w' W0.heap.size g cap (exS rs a b i j).2 svs' := by
  have HB := Aside0.mk hb
  have HT := Aside0.mk hT
  have HA := Aside0.mk ha
  have HAL := Aside0.mk hal
  clear hb hT
  have HIa := Aside0.mk (show a.toNat < rs.length by omega)
  have HIb := Aside0.mk (show b.toNat < rs.length by omega)
  obtain ⟨xsa, hxa⟩ : ∃ xs, st rs a.toNat = xs := ⟨_, rfl⟩
  obtain ⟨Aa, ca, hva⟩ := RT.vl_ rs svs a.toNat xsa hxa
  have HXa := Aside0.mk hxa
  have HVa := Aside0.mk hva
  obtain ⟨xsb, hxb⟩ : ∃ xs, st rs b.toNat = xs := ⟨_, rfl⟩
  obtain ⟨Ab, cb, hvb⟩ := RT.vl_ rs svs b.toNat xsb hxb
  have HXb := Aside0.mk hxb
  have HVb := Aside0.mk hvb
  (try rw [hxa] at h)
  (try rw [hxb] at h)
  have HR := Aside0.mk (show (false, rs) = exS rs a b i j by unfold exS; rw [if_neg (by rw [hxa, hxb]; omega)])
  rw [← HR.out]
  have p37 : (0 ≤ a) = True := eq_true (by omega)
  have q37 : (a < 0) = False := eq_false (by omega)
  have p38 : (a < (rs.length : Int)) = True := eq_true (by omega)
  have q38 : ((rs.length : Int) ≤ a) = False := eq_false (by omega)
  have p39 : (0 ≤ b) = True := eq_true (by omega)
  have q39 : (b < 0) = False := eq_false (by omega)
  have p40 : (b < (rs.length : Int)) = True := eq_true (by omega)
  have q40 : ((rs.length : Int) ≤ b) = False := eq_false (by omega)
  have p41 : (a ≤ b) = True := eq_true (by omega)
  have q41 : (b < a) = False := eq_false (by omega)
  have p42 : (a = b) = False := eq_false (by omega)
  have q42 : (a == b) = false := beq_eq_false_iff_ne.mpr (by omega)
  have r42 : (a != b) = true := by rw [bne, q42]; rfl
  have p43 : (i < 0) = True := eq_true (by omega)
  have q43 : (0 ≤ i) = False := eq_false (by omega)
  clear ha hal hb0 hbl h
  clear hxa hva hxb hvb
  go_enter Try.func30, Try.ntmps30
  go_wp2_with (first | ((with_reducible refine gate_dst (N := 2) rfl ?_); refine box_event ?hg (N := 2) ?hd (cs := #[.int .i64 k, .int .i64 a, .int .i64 i, .int .i64 b, .int .i64 j, .int .i64 n]) (t := 29) ?hr ?_; (case hd => rfl); (case hg => rfl); (case hr => first | (go_simp; done) | (go_simp; rfl)); intro gm hg_ wv hbox hb; have BM := Aside0.mk hbox; have GM := Aside0.mk (Nat.le_of_eq hg_.symm); have NG := Aside0.mk (show g < gm by rw [hg_]; exact RT.lt HT.out); replace HB := Aside0.mk (below_step HB.out hb); replace HT := Aside0.mk (RT.below HT.out hb); clear hb hbox hg_; have hm1 : wv.cell? ⟨gm, 1, none⟩ = some (.int .i64 a) := (blk_cell BM.out 1).trans rfl; have hm2 : wv.cell? ⟨gm, 2, none⟩ = some (.int .i64 i) := (blk_cell BM.out 2).trans rfl; have hm3 : wv.cell? ⟨gm, 3, none⟩ = some (.int .i64 b) := (blk_cell BM.out 3).trans rfl; have hm4 : wv.cell? ⟨gm, 4, none⟩ = some (.int .i64 j) := (blk_cell BM.out 4).trans rfl; have hs1 := (RT.cell1 HT.out (j := a.toNat) HIa.out).trans (congrArg some HVa.out); have hs2 := (RT.cell1 HT.out (j := b.toNat) HIb.out).trans (congrArg some HVb.out)))
  go_quiet (fail)
  go_wp2
  first | go_ret | go_ret2
  exact ⟨svs, rfl, pw_below_drewN HB.out _, RT.below HT.out (pw_below_drewN (Below.refl _ _) _)⟩
set_option maxHeartbeats 8000000 in
set_option maxRecDepth 100000 in
theorem ex_n40 (W0 : World) (g cap : Nat) (rs : List Rt) (svs : List (Option Addr × Nat)) (k a i b j n : Int) (w : World) (hb : Below W0.heap.size W0 w) (hT : RT w W0.heap.size g cap rs svs) (ha : 0 ≤ a) (hal : a < rs.length) (hb0 : 0 ≤ b) (hbl : b < rs.length) (h : (a < b) ∧ 0 ≤ i ∧ ((st rs a.toNat).length : Int) ≤ i) : Calls Try.prog 30 #[.agg #[.int .i64 k, .int .i64 a, .int .i64 i, .int .i64 b, .int .i64 j, .int .i64 n], .slice (some ⟨g, 0, none⟩) rs.length cap] w fun e w' => ∃ svs', e = .returned (.bool (exS rs a b i j).1) ∧ Below W0.heap.size W0 w' ∧ RT w' W0.heap.size g cap (exS rs a b i j).2 svs' := by
  have HB := Aside0.mk hb
  have HT := Aside0.mk hT
  have HA := Aside0.mk ha
  have HAL := Aside0.mk hal
  clear hb hT
  have HIa := Aside0.mk (show a.toNat < rs.length by omega)
  have HIb := Aside0.mk (show b.toNat < rs.length by omega)
  obtain ⟨xsa, hxa⟩ : ∃ xs, st rs a.toNat = xs := ⟨_, rfl⟩
  obtain ⟨Aa, ca, hva⟩ := RT.vl_ rs svs a.toNat xsa hxa
  have HXa := Aside0.mk hxa
  have HVa := Aside0.mk hva
  obtain ⟨xsb, hxb⟩ : ∃ xs, st rs b.toNat = xs := ⟨_, rfl⟩
  obtain ⟨Ab, cb, hvb⟩ := RT.vl_ rs svs b.toNat xsb hxb
  have HXb := Aside0.mk hxb
  have HVb := Aside0.mk hvb
  (try rw [hxa] at h)
  (try rw [hxb] at h)
  have HR := Aside0.mk (show (false, rs) = exS rs a b i j by unfold exS; rw [if_neg (by rw [hxa, hxb]; omega)])
  rw [← HR.out]
  have p44 : (0 ≤ a) = True := eq_true (by omega)
  have q44 : (a < 0) = False := eq_false (by omega)
  have p45 : (a < (rs.length : Int)) = True := eq_true (by omega)
  have q45 : ((rs.length : Int) ≤ a) = False := eq_false (by omega)
  have p46 : (0 ≤ b) = True := eq_true (by omega)
  have q46 : (b < 0) = False := eq_false (by omega)
  have p47 : (b < (rs.length : Int)) = True := eq_true (by omega)
  have q47 : ((rs.length : Int) ≤ b) = False := eq_false (by omega)
  have p48 : (a ≤ b) = True := eq_true (by omega)
  have q48 : (b < a) = False := eq_false (by omega)
  have p49 : (a = b) = False := eq_false (by omega)
  have q49 : (a == b) = false := beq_eq_false_iff_ne.mpr (by omega)
  have r49 : (a != b) = true := by rw [bne, q49]; rfl
  have p50 : (i < 0) = False := eq_false (by omega)
  have q50 : (0 ≤ i) = True := eq_true (by omega)
  have p51 : ((xsa.length : Int) ≤ i) = True := eq_true (by omega)
  have q51 : (i < (xsa.length : Int)) = False := eq_false (by omega)
  clear ha hal hb0 hbl h
  clear hxa hva hxb hvb
  go_enter Try.func30, Try.ntmps30
  go_wp2_with (first | ((with_reducible refine gate_dst (N := 2) rfl ?_); refine box_event ?hg (N := 2) ?hd (cs := #[.int .i64 k, .int .i64 a, .int .i64 i, .int .i64 b, .int .i64 j, .int .i64 n]) (t := 29) ?hr ?_; (case hd => rfl); (case hg => rfl); (case hr => first | (go_simp; done) | (go_simp; rfl)); intro gm hg_ wv hbox hb; have BM := Aside0.mk hbox; have GM := Aside0.mk (Nat.le_of_eq hg_.symm); have NG := Aside0.mk (show g < gm by rw [hg_]; exact RT.lt HT.out); replace HB := Aside0.mk (below_step HB.out hb); replace HT := Aside0.mk (RT.below HT.out hb); clear hb hbox hg_; have hm1 : wv.cell? ⟨gm, 1, none⟩ = some (.int .i64 a) := (blk_cell BM.out 1).trans rfl; have hm2 : wv.cell? ⟨gm, 2, none⟩ = some (.int .i64 i) := (blk_cell BM.out 2).trans rfl; have hm3 : wv.cell? ⟨gm, 3, none⟩ = some (.int .i64 b) := (blk_cell BM.out 3).trans rfl; have hm4 : wv.cell? ⟨gm, 4, none⟩ = some (.int .i64 j) := (blk_cell BM.out 4).trans rfl; have hs1 := (RT.cell1 HT.out (j := a.toNat) HIa.out).trans (congrArg some HVa.out); have hs2 := (RT.cell1 HT.out (j := b.toNat) HIb.out).trans (congrArg some HVb.out)))
  go_quiet (fail)
  go_wp2
  first | go_ret | go_ret2
  exact ⟨svs, rfl, pw_below_drewN HB.out _, RT.below HT.out (pw_below_drewN (Below.refl _ _) _)⟩
set_option maxHeartbeats 8000000 in
set_option maxRecDepth 100000 in
theorem ex_n50 (W0 : World) (g cap : Nat) (rs : List Rt) (svs : List (Option Addr × Nat)) (k a i b j n : Int) (w : World) (hb : Below W0.heap.size W0 w) (hT : RT w W0.heap.size g cap rs svs) (ha : 0 ≤ a) (hal : a < rs.length) (hb0 : 0 ≤ b) (hbl : b < rs.length) (h : (a < b) ∧ 0 ≤ i ∧ i < ((st rs a.toNat).length : Int) ∧ j < 0) : Calls Try.prog 30 #[.agg #[.int .i64 k, .int .i64 a, .int .i64 i, .int .i64 b, .int .i64 j, .int .i64 n], .slice (some ⟨g, 0, none⟩) rs.length cap] w fun e w' => ∃ svs', e = .returned (.bool (exS rs a b i j).1) ∧ Below W0.heap.size W0 w' ∧ RT w' W0.heap.size g cap (exS rs a b i j).2 svs' := by
  have HB := Aside0.mk hb
  have HT := Aside0.mk hT
  have HA := Aside0.mk ha
  have HAL := Aside0.mk hal
  clear hb hT
  have HIa := Aside0.mk (show a.toNat < rs.length by omega)
  have HIb := Aside0.mk (show b.toNat < rs.length by omega)
  obtain ⟨xsa, hxa⟩ : ∃ xs, st rs a.toNat = xs := ⟨_, rfl⟩
  obtain ⟨Aa, ca, hva⟩ := RT.vl_ rs svs a.toNat xsa hxa
  have HXa := Aside0.mk hxa
  have HVa := Aside0.mk hva
  obtain ⟨xsb, hxb⟩ : ∃ xs, st rs b.toNat = xs := ⟨_, rfl⟩
  obtain ⟨Ab, cb, hvb⟩ := RT.vl_ rs svs b.toNat xsb hxb
  have HXb := Aside0.mk hxb
  have HVb := Aside0.mk hvb
  (try rw [hxa] at h)
  (try rw [hxb] at h)
  have HR := Aside0.mk (show (false, rs) = exS rs a b i j by unfold exS; rw [if_neg (by rw [hxa, hxb]; omega)])
  rw [← HR.out]
  have p52 : (0 ≤ a) = True := eq_true (by omega)
  have q52 : (a < 0) = False := eq_false (by omega)
  have p53 : (a < (rs.length : Int)) = True := eq_true (by omega)
  have q53 : ((rs.length : Int) ≤ a) = False := eq_false (by omega)
  have p54 : (0 ≤ b) = True := eq_true (by omega)
  have q54 : (b < 0) = False := eq_false (by omega)
  have p55 : (b < (rs.length : Int)) = True := eq_true (by omega)
  have q55 : ((rs.length : Int) ≤ b) = False := eq_false (by omega)
  have p56 : (a ≤ b) = True := eq_true (by omega)
  have q56 : (b < a) = False := eq_false (by omega)
  have p57 : (a = b) = False := eq_false (by omega)
  have q57 : (a == b) = false := beq_eq_false_iff_ne.mpr (by omega)
  have r57 : (a != b) = true := by rw [bne, q57]; rfl
  have p58 : (i < 0) = False := eq_false (by omega)
  have q58 : (0 ≤ i) = True := eq_true (by omega)
  have p59 : ((xsa.length : Int) ≤ i) = False := eq_false (by omega)
  have q59 : (i < (xsa.length : Int)) = True := eq_true (by omega)
  have p60 : (j < 0) = True := eq_true (by omega)
  have q60 : (0 ≤ j) = False := eq_false (by omega)
  clear ha hal hb0 hbl h
  clear hxa hva hxb hvb
  go_enter Try.func30, Try.ntmps30
  go_wp2_with (first | ((with_reducible refine gate_dst (N := 2) rfl ?_); refine box_event ?hg (N := 2) ?hd (cs := #[.int .i64 k, .int .i64 a, .int .i64 i, .int .i64 b, .int .i64 j, .int .i64 n]) (t := 29) ?hr ?_; (case hd => rfl); (case hg => rfl); (case hr => first | (go_simp; done) | (go_simp; rfl)); intro gm hg_ wv hbox hb; have BM := Aside0.mk hbox; have GM := Aside0.mk (Nat.le_of_eq hg_.symm); have NG := Aside0.mk (show g < gm by rw [hg_]; exact RT.lt HT.out); replace HB := Aside0.mk (below_step HB.out hb); replace HT := Aside0.mk (RT.below HT.out hb); clear hb hbox hg_; have hm1 : wv.cell? ⟨gm, 1, none⟩ = some (.int .i64 a) := (blk_cell BM.out 1).trans rfl; have hm2 : wv.cell? ⟨gm, 2, none⟩ = some (.int .i64 i) := (blk_cell BM.out 2).trans rfl; have hm3 : wv.cell? ⟨gm, 3, none⟩ = some (.int .i64 b) := (blk_cell BM.out 3).trans rfl; have hm4 : wv.cell? ⟨gm, 4, none⟩ = some (.int .i64 j) := (blk_cell BM.out 4).trans rfl; have hs1 := (RT.cell1 HT.out (j := a.toNat) HIa.out).trans (congrArg some HVa.out); have hs2 := (RT.cell1 HT.out (j := b.toNat) HIb.out).trans (congrArg some HVb.out)))
  go_quiet (fail)
  go_wp2
  first | go_ret | go_ret2
  exact ⟨svs, rfl, pw_below_drewN HB.out _, RT.below HT.out (pw_below_drewN (Below.refl _ _) _)⟩
set_option maxHeartbeats 8000000 in
set_option maxRecDepth 100000 in
theorem ex_n60 (W0 : World) (g cap : Nat) (rs : List Rt) (svs : List (Option Addr × Nat)) (k a i b j n : Int) (w : World) (hb : Below W0.heap.size W0 w) (hT : RT w W0.heap.size g cap rs svs) (ha : 0 ≤ a) (hal : a < rs.length) (hb0 : 0 ≤ b) (hbl : b < rs.length) (h : (a < b) ∧ 0 ≤ i ∧ i < ((st rs a.toNat).length : Int) ∧ 0 ≤ j ∧ ((st rs b.toNat).length : Int) ≤ j) : Calls Try.prog 30 #[.agg #[.int .i64 k, .int .i64 a, .int .i64 i, .int .i64 b, .int .i64 j, .int .i64 n], .slice (some ⟨g, 0, none⟩) rs.length cap] w fun e w' => ∃ svs', e = .returned (.bool (exS rs a b i j).1) ∧ Below W0.heap.size W0 w' ∧ RT w' W0.heap.size g cap (exS rs a b i j).2 svs' := by
  have HB := Aside0.mk hb
  have HT := Aside0.mk hT
  have HA := Aside0.mk ha
  have HAL := Aside0.mk hal
  clear hb hT
  have HIa := Aside0.mk (show a.toNat < rs.length by omega)
  have HIb := Aside0.mk (show b.toNat < rs.length by omega)
  obtain ⟨xsa, hxa⟩ : ∃ xs, st rs a.toNat = xs := ⟨_, rfl⟩
  obtain ⟨Aa, ca, hva⟩ := RT.vl_ rs svs a.toNat xsa hxa
  have HXa := Aside0.mk hxa
  have HVa := Aside0.mk hva
  obtain ⟨xsb, hxb⟩ : ∃ xs, st rs b.toNat = xs := ⟨_, rfl⟩
  obtain ⟨Ab, cb, hvb⟩ := RT.vl_ rs svs b.toNat xsb hxb
  have HXb := Aside0.mk hxb
  have HVb := Aside0.mk hvb
  (try rw [hxa] at h)
  (try rw [hxb] at h)
  have HR := Aside0.mk (show (false, rs) = exS rs a b i j by unfold exS; rw [if_neg (by rw [hxa, hxb]; omega)])
  rw [← HR.out]
  have p61 : (0 ≤ a) = True := eq_true (by omega)
  have q61 : (a < 0) = False := eq_false (by omega)
  have p62 : (a < (rs.length : Int)) = True := eq_true (by omega)
  have q62 : ((rs.length : Int) ≤ a) = False := eq_false (by omega)
  have p63 : (0 ≤ b) = True := eq_true (by omega)
  have q63 : (b < 0) = False := eq_false (by omega)
  have p64 : (b < (rs.length : Int)) = True := eq_true (by omega)
  have q64 : ((rs.length : Int) ≤ b) = False := eq_false (by omega)
  have p65 : (a ≤ b) = True := eq_true (by omega)
  have q65 : (b < a) = False := eq_false (by omega)
  have p66 : (a = b) = False := eq_false (by omega)
  have q66 : (a == b) = false := beq_eq_false_iff_ne.mpr (by omega)
  have r66 : (a != b) = true := by rw [bne, q66]; rfl
  have p67 : (i < 0) = False := eq_false (by omega)
  have q67 : (0 ≤ i) = True := eq_true (by omega)
  have p68 : ((xsa.length : Int) ≤ i) = False := eq_false (by omega)
  have q68 : (i < (xsa.length : Int)) = True := eq_true (by omega)
  have p69 : (j < 0) = False := eq_false (by omega)
  have q69 : (0 ≤ j) = True := eq_true (by omega)
  have p70 : ((xsb.length : Int) ≤ j) = True := eq_true (by omega)
  have q70 : (j < (xsb.length : Int)) = False := eq_false (by omega)
  clear ha hal hb0 hbl h
  clear hxa hva hxb hvb
  go_enter Try.func30, Try.ntmps30
  go_wp2_with (first | ((with_reducible refine gate_dst (N := 2) rfl ?_); refine box_event ?hg (N := 2) ?hd (cs := #[.int .i64 k, .int .i64 a, .int .i64 i, .int .i64 b, .int .i64 j, .int .i64 n]) (t := 29) ?hr ?_; (case hd => rfl); (case hg => rfl); (case hr => first | (go_simp; done) | (go_simp; rfl)); intro gm hg_ wv hbox hb; have BM := Aside0.mk hbox; have GM := Aside0.mk (Nat.le_of_eq hg_.symm); have NG := Aside0.mk (show g < gm by rw [hg_]; exact RT.lt HT.out); replace HB := Aside0.mk (below_step HB.out hb); replace HT := Aside0.mk (RT.below HT.out hb); clear hb hbox hg_; have hm1 : wv.cell? ⟨gm, 1, none⟩ = some (.int .i64 a) := (blk_cell BM.out 1).trans rfl; have hm2 : wv.cell? ⟨gm, 2, none⟩ = some (.int .i64 i) := (blk_cell BM.out 2).trans rfl; have hm3 : wv.cell? ⟨gm, 3, none⟩ = some (.int .i64 b) := (blk_cell BM.out 3).trans rfl; have hm4 : wv.cell? ⟨gm, 4, none⟩ = some (.int .i64 j) := (blk_cell BM.out 4).trans rfl; have hs1 := (RT.cell1 HT.out (j := a.toNat) HIa.out).trans (congrArg some HVa.out); have hs2 := (RT.cell1 HT.out (j := b.toNat) HIb.out).trans (congrArg some HVb.out)))
  go_quiet (fail)
  go_wp2
  first | go_ret | go_ret2
  exact ⟨svs, rfl, pw_below_drewN HB.out _, RT.below HT.out (pw_below_drewN (Below.refl _ _) _)⟩
set_option maxHeartbeats 8000000 in
set_option maxRecDepth 100000 in
theorem ex_n31 (W0 : World) (g cap : Nat) (rs : List Rt) (svs : List (Option Addr × Nat)) (k a i b j n : Int) (w : World) (hb : Below W0.heap.size W0 w) (hT : RT w W0.heap.size g cap rs svs) (ha : 0 ≤ a) (hal : a < rs.length) (hb0 : 0 ≤ b) (hbl : b < rs.length) (h : (a = b ∧ i < j) ∧ i < 0) : Calls Try.prog 30 #[.agg #[.int .i64 k, .int .i64 a, .int .i64 i, .int .i64 b, .int .i64 j, .int .i64 n], .slice (some ⟨g, 0, none⟩) rs.length cap] w fun e w' => ∃ svs', e = .returned (.bool (exS rs a b i j).1) ∧ Below W0.heap.size W0 w' ∧ RT w' W0.heap.size g cap (exS rs a b i j).2 svs' := by
  have HB := Aside0.mk hb
  have HT := Aside0.mk hT
  have HA := Aside0.mk ha
  have HAL := Aside0.mk hal
  clear hb hT
  have HIa := Aside0.mk (show a.toNat < rs.length by omega)
  have HIb := Aside0.mk (show b.toNat < rs.length by omega)
  obtain ⟨xsa, hxa⟩ : ∃ xs, st rs a.toNat = xs := ⟨_, rfl⟩
  obtain ⟨Aa, ca, hva⟩ := RT.vl_ rs svs a.toNat xsa hxa
  have HXa := Aside0.mk hxa
  have HVa := Aside0.mk hva
  obtain ⟨xsb, hxb⟩ : ∃ xs, st rs b.toNat = xs := ⟨_, rfl⟩
  obtain ⟨Ab, cb, hvb⟩ := RT.vl_ rs svs b.toNat xsb hxb
  have HXb := Aside0.mk hxb
  have HVb := Aside0.mk hvb
  (try rw [hxa] at h)
  (try rw [hxb] at h)
  have HR := Aside0.mk (show (false, rs) = exS rs a b i j by unfold exS; rw [if_neg (by rw [hxa, hxb]; omega)])
  rw [← HR.out]
  have p71 : (0 ≤ a) = True := eq_true (by omega)
  have q71 : (a < 0) = False := eq_false (by omega)
  have p72 : (a < (rs.length : Int)) = True := eq_true (by omega)
  have q72 : ((rs.length : Int) ≤ a) = False := eq_false (by omega)
  have p73 : (0 ≤ b) = True := eq_true (by omega)
  have q73 : (b < 0) = False := eq_false (by omega)
  have p74 : (b < (rs.length : Int)) = True := eq_true (by omega)
  have q74 : ((rs.length : Int) ≤ b) = False := eq_false (by omega)
  have p75 : (a ≤ b) = True := eq_true (by omega)
  have q75 : (b < a) = False := eq_false (by omega)
  have p76 : (a = b) = True := eq_true (by omega)
  have q76 : (a == b) = true := beq_iff_eq.mpr (by omega)
  have r76 : (a != b) = false := by rw [bne, q76]; rfl
  have p77 : (j ≤ i) = False := eq_false (by omega)
  have q77 : (i < j) = True := eq_true (by omega)
  have p78 : (i < 0) = True := eq_true (by omega)
  have q78 : (0 ≤ i) = False := eq_false (by omega)
  clear ha hal hb0 hbl h
  clear hxa hva hxb hvb
  go_enter Try.func30, Try.ntmps30
  go_wp2_with (first | ((with_reducible refine gate_dst (N := 2) rfl ?_); refine box_event ?hg (N := 2) ?hd (cs := #[.int .i64 k, .int .i64 a, .int .i64 i, .int .i64 b, .int .i64 j, .int .i64 n]) (t := 29) ?hr ?_; (case hd => rfl); (case hg => rfl); (case hr => first | (go_simp; done) | (go_simp; rfl)); intro gm hg_ wv hbox hb; have BM := Aside0.mk hbox; have GM := Aside0.mk (Nat.le_of_eq hg_.symm); have NG := Aside0.mk (show g < gm by rw [hg_]; exact RT.lt HT.out); replace HB := Aside0.mk (below_step HB.out hb); replace HT := Aside0.mk (RT.below HT.out hb); clear hb hbox hg_; have hm1 : wv.cell? ⟨gm, 1, none⟩ = some (.int .i64 a) := (blk_cell BM.out 1).trans rfl; have hm2 : wv.cell? ⟨gm, 2, none⟩ = some (.int .i64 i) := (blk_cell BM.out 2).trans rfl; have hm3 : wv.cell? ⟨gm, 3, none⟩ = some (.int .i64 b) := (blk_cell BM.out 3).trans rfl; have hm4 : wv.cell? ⟨gm, 4, none⟩ = some (.int .i64 j) := (blk_cell BM.out 4).trans rfl; have hs1 := (RT.cell1 HT.out (j := a.toNat) HIa.out).trans (congrArg some HVa.out); have hs2 := (RT.cell1 HT.out (j := b.toNat) HIb.out).trans (congrArg some HVb.out)))
  go_quiet (fail)
  go_wp2
  first | go_ret | go_ret2
  exact ⟨svs, rfl, pw_below_drewN HB.out _, RT.below HT.out (pw_below_drewN (Below.refl _ _) _)⟩
set_option maxHeartbeats 8000000 in
set_option maxRecDepth 100000 in
theorem ex_n41 (W0 : World) (g cap : Nat) (rs : List Rt) (svs : List (Option Addr × Nat)) (k a i b j n : Int) (w : World) (hb : Below W0.heap.size W0 w) (hT : RT w W0.heap.size g cap rs svs) (ha : 0 ≤ a) (hal : a < rs.length) (hb0 : 0 ≤ b) (hbl : b < rs.length) (h : (a = b ∧ i < j) ∧ 0 ≤ i ∧ ((st rs a.toNat).length : Int) ≤ i) : Calls Try.prog 30 #[.agg #[.int .i64 k, .int .i64 a, .int .i64 i, .int .i64 b, .int .i64 j, .int .i64 n], .slice (some ⟨g, 0, none⟩) rs.length cap] w fun e w' => ∃ svs', e = .returned (.bool (exS rs a b i j).1) ∧ Below W0.heap.size W0 w' ∧ RT w' W0.heap.size g cap (exS rs a b i j).2 svs' := by
  have HB := Aside0.mk hb
  have HT := Aside0.mk hT
  have HA := Aside0.mk ha
  have HAL := Aside0.mk hal
  clear hb hT
  have HIa := Aside0.mk (show a.toNat < rs.length by omega)
  have HIb := Aside0.mk (show b.toNat < rs.length by omega)
  obtain ⟨xsa, hxa⟩ : ∃ xs, st rs a.toNat = xs := ⟨_, rfl⟩
  obtain ⟨Aa, ca, hva⟩ := RT.vl_ rs svs a.toNat xsa hxa
  have HXa := Aside0.mk hxa
  have HVa := Aside0.mk hva
  obtain ⟨xsb, hxb⟩ : ∃ xs, st rs b.toNat = xs := ⟨_, rfl⟩
  obtain ⟨Ab, cb, hvb⟩ := RT.vl_ rs svs b.toNat xsb hxb
  have HXb := Aside0.mk hxb
  have HVb := Aside0.mk hvb
  (try rw [hxa] at h)
  (try rw [hxb] at h)
  have HR := Aside0.mk (show (false, rs) = exS rs a b i j by unfold exS; rw [if_neg (by rw [hxa, hxb]; omega)])
  rw [← HR.out]
  have p79 : (0 ≤ a) = True := eq_true (by omega)
  have q79 : (a < 0) = False := eq_false (by omega)
  have p80 : (a < (rs.length : Int)) = True := eq_true (by omega)
  have q80 : ((rs.length : Int) ≤ a) = False := eq_false (by omega)
  have p81 : (0 ≤ b) = True := eq_true (by omega)
  have q81 : (b < 0) = False := eq_false (by omega)
  have p82 : (b < (rs.length : Int)) = True := eq_true (by omega)
  have q82 : ((rs.length : Int) ≤ b) = False := eq_false (by omega)
  have p83 : (a ≤ b) = True := eq_true (by omega)
  have q83 : (b < a) = False := eq_false (by omega)
  have p84 : (a = b) = True := eq_true (by omega)
  have q84 : (a == b) = true := beq_iff_eq.mpr (by omega)
  have r84 : (a != b) = false := by rw [bne, q84]; rfl
  have p85 : (j ≤ i) = False := eq_false (by omega)
  have q85 : (i < j) = True := eq_true (by omega)
  have p86 : (i < 0) = False := eq_false (by omega)
  have q86 : (0 ≤ i) = True := eq_true (by omega)
  have p87 : ((xsa.length : Int) ≤ i) = True := eq_true (by omega)
  have q87 : (i < (xsa.length : Int)) = False := eq_false (by omega)
  clear ha hal hb0 hbl h
  clear hxa hva hxb hvb
  go_enter Try.func30, Try.ntmps30
  go_wp2_with (first | ((with_reducible refine gate_dst (N := 2) rfl ?_); refine box_event ?hg (N := 2) ?hd (cs := #[.int .i64 k, .int .i64 a, .int .i64 i, .int .i64 b, .int .i64 j, .int .i64 n]) (t := 29) ?hr ?_; (case hd => rfl); (case hg => rfl); (case hr => first | (go_simp; done) | (go_simp; rfl)); intro gm hg_ wv hbox hb; have BM := Aside0.mk hbox; have GM := Aside0.mk (Nat.le_of_eq hg_.symm); have NG := Aside0.mk (show g < gm by rw [hg_]; exact RT.lt HT.out); replace HB := Aside0.mk (below_step HB.out hb); replace HT := Aside0.mk (RT.below HT.out hb); clear hb hbox hg_; have hm1 : wv.cell? ⟨gm, 1, none⟩ = some (.int .i64 a) := (blk_cell BM.out 1).trans rfl; have hm2 : wv.cell? ⟨gm, 2, none⟩ = some (.int .i64 i) := (blk_cell BM.out 2).trans rfl; have hm3 : wv.cell? ⟨gm, 3, none⟩ = some (.int .i64 b) := (blk_cell BM.out 3).trans rfl; have hm4 : wv.cell? ⟨gm, 4, none⟩ = some (.int .i64 j) := (blk_cell BM.out 4).trans rfl; have hs1 := (RT.cell1 HT.out (j := a.toNat) HIa.out).trans (congrArg some HVa.out); have hs2 := (RT.cell1 HT.out (j := b.toNat) HIb.out).trans (congrArg some HVb.out)))
  go_quiet (fail)
  go_wp2
  first | go_ret | go_ret2
  exact ⟨svs, rfl, pw_below_drewN HB.out _, RT.below HT.out (pw_below_drewN (Below.refl _ _) _)⟩
set_option maxHeartbeats 8000000 in
set_option maxRecDepth 100000 in
theorem ex_n51 (W0 : World) (g cap : Nat) (rs : List Rt) (svs : List (Option Addr × Nat)) (k a i b j n : Int) (w : World) (hb : Below W0.heap.size W0 w) (hT : RT w W0.heap.size g cap rs svs) (ha : 0 ≤ a) (hal : a < rs.length) (hb0 : 0 ≤ b) (hbl : b < rs.length) (h : (a = b ∧ i < j) ∧ 0 ≤ i ∧ i < ((st rs a.toNat).length : Int) ∧ j < 0) : Calls Try.prog 30 #[.agg #[.int .i64 k, .int .i64 a, .int .i64 i, .int .i64 b, .int .i64 j, .int .i64 n], .slice (some ⟨g, 0, none⟩) rs.length cap] w fun e w' => ∃ svs', e = .returned (.bool (exS rs a b i j).1) ∧ Below W0.heap.size W0 w' ∧ RT w' W0.heap.size g cap (exS rs a b i j).2 svs' := by
  have HB := Aside0.mk hb
  have HT := Aside0.mk hT
  have HA := Aside0.mk ha
  have HAL := Aside0.mk hal
  clear hb hT
  have HIa := Aside0.mk (show a.toNat < rs.length by omega)
  have HIb := Aside0.mk (show b.toNat < rs.length by omega)
  obtain ⟨xsa, hxa⟩ : ∃ xs, st rs a.toNat = xs := ⟨_, rfl⟩
  obtain ⟨Aa, ca, hva⟩ := RT.vl_ rs svs a.toNat xsa hxa
  have HXa := Aside0.mk hxa
  have HVa := Aside0.mk hva
  obtain ⟨xsb, hxb⟩ : ∃ xs, st rs b.toNat = xs := ⟨_, rfl⟩
  obtain ⟨Ab, cb, hvb⟩ := RT.vl_ rs svs b.toNat xsb hxb
  have HXb := Aside0.mk hxb
  have HVb := Aside0.mk hvb
  (try rw [hxa] at h)
  (try rw [hxb] at h)
  have HR := Aside0.mk (show (false, rs) = exS rs a b i j by unfold exS; rw [if_neg (by rw [hxa, hxb]; omega)])
  rw [← HR.out]
  have p88 : (0 ≤ a) = True := eq_true (by omega)
  have q88 : (a < 0) = False := eq_false (by omega)
  have p89 : (a < (rs.length : Int)) = True := eq_true (by omega)
  have q89 : ((rs.length : Int) ≤ a) = False := eq_false (by omega)
  have p90 : (0 ≤ b) = True := eq_true (by omega)
  have q90 : (b < 0) = False := eq_false (by omega)
  have p91 : (b < (rs.length : Int)) = True := eq_true (by omega)
  have q91 : ((rs.length : Int) ≤ b) = False := eq_false (by omega)
  have p92 : (a ≤ b) = True := eq_true (by omega)
  have q92 : (b < a) = False := eq_false (by omega)
  have p93 : (a = b) = True := eq_true (by omega)
  have q93 : (a == b) = true := beq_iff_eq.mpr (by omega)
  have r93 : (a != b) = false := by rw [bne, q93]; rfl
  have p94 : (j ≤ i) = False := eq_false (by omega)
  have q94 : (i < j) = True := eq_true (by omega)
  have p95 : (i < 0) = False := eq_false (by omega)
  have q95 : (0 ≤ i) = True := eq_true (by omega)
  have p96 : ((xsa.length : Int) ≤ i) = False := eq_false (by omega)
  have q96 : (i < (xsa.length : Int)) = True := eq_true (by omega)
  have p97 : (j < 0) = True := eq_true (by omega)
  have q97 : (0 ≤ j) = False := eq_false (by omega)
  clear ha hal hb0 hbl h
  clear hxa hva hxb hvb
  go_enter Try.func30, Try.ntmps30
  go_wp2_with (first | ((with_reducible refine gate_dst (N := 2) rfl ?_); refine box_event ?hg (N := 2) ?hd (cs := #[.int .i64 k, .int .i64 a, .int .i64 i, .int .i64 b, .int .i64 j, .int .i64 n]) (t := 29) ?hr ?_; (case hd => rfl); (case hg => rfl); (case hr => first | (go_simp; done) | (go_simp; rfl)); intro gm hg_ wv hbox hb; have BM := Aside0.mk hbox; have GM := Aside0.mk (Nat.le_of_eq hg_.symm); have NG := Aside0.mk (show g < gm by rw [hg_]; exact RT.lt HT.out); replace HB := Aside0.mk (below_step HB.out hb); replace HT := Aside0.mk (RT.below HT.out hb); clear hb hbox hg_; have hm1 : wv.cell? ⟨gm, 1, none⟩ = some (.int .i64 a) := (blk_cell BM.out 1).trans rfl; have hm2 : wv.cell? ⟨gm, 2, none⟩ = some (.int .i64 i) := (blk_cell BM.out 2).trans rfl; have hm3 : wv.cell? ⟨gm, 3, none⟩ = some (.int .i64 b) := (blk_cell BM.out 3).trans rfl; have hm4 : wv.cell? ⟨gm, 4, none⟩ = some (.int .i64 j) := (blk_cell BM.out 4).trans rfl; have hs1 := (RT.cell1 HT.out (j := a.toNat) HIa.out).trans (congrArg some HVa.out); have hs2 := (RT.cell1 HT.out (j := b.toNat) HIb.out).trans (congrArg some HVb.out)))
  go_quiet (fail)
  go_wp2
  first | go_ret | go_ret2
  exact ⟨svs, rfl, pw_below_drewN HB.out _, RT.below HT.out (pw_below_drewN (Below.refl _ _) _)⟩
set_option maxHeartbeats 8000000 in
set_option maxRecDepth 100000 in
theorem ex_n61 (W0 : World) (g cap : Nat) (rs : List Rt) (svs : List (Option Addr × Nat)) (k a i b j n : Int) (w : World) (hb : Below W0.heap.size W0 w) (hT : RT w W0.heap.size g cap rs svs) (ha : 0 ≤ a) (hal : a < rs.length) (hb0 : 0 ≤ b) (hbl : b < rs.length) (h : (a = b ∧ i < j) ∧ 0 ≤ i ∧ i < ((st rs a.toNat).length : Int) ∧ 0 ≤ j ∧ ((st rs b.toNat).length : Int) ≤ j) : Calls Try.prog 30 #[.agg #[.int .i64 k, .int .i64 a, .int .i64 i, .int .i64 b, .int .i64 j, .int .i64 n], .slice (some ⟨g, 0, none⟩) rs.length cap] w fun e w' => ∃ svs', e = .returned (.bool (exS rs a b i j).1) ∧ Below W0.heap.size W0 w' ∧ RT w' W0.heap.size g cap (exS rs a b i j).2 svs' := by
  have HB := Aside0.mk hb
  have HT := Aside0.mk hT
  have HA := Aside0.mk ha
  have HAL := Aside0.mk hal
  clear hb hT
  have HIa := Aside0.mk (show a.toNat < rs.length by omega)
  have HIb := Aside0.mk (show b.toNat < rs.length by omega)
  obtain ⟨xsa, hxa⟩ : ∃ xs, st rs a.toNat = xs := ⟨_, rfl⟩
  obtain ⟨Aa, ca, hva⟩ := RT.vl_ rs svs a.toNat xsa hxa
  have HXa := Aside0.mk hxa
  have HVa := Aside0.mk hva
  obtain ⟨xsb, hxb⟩ : ∃ xs, st rs b.toNat = xs := ⟨_, rfl⟩
  obtain ⟨Ab, cb, hvb⟩ := RT.vl_ rs svs b.toNat xsb hxb
  have HXb := Aside0.mk hxb
  have HVb := Aside0.mk hvb
  (try rw [hxa] at h)
  (try rw [hxb] at h)
  have HR := Aside0.mk (show (false, rs) = exS rs a b i j by unfold exS; rw [if_neg (by rw [hxa, hxb]; omega)])
  rw [← HR.out]
  have p98 : (0 ≤ a) = True := eq_true (by omega)
  have q98 : (a < 0) = False := eq_false (by omega)
  have p99 : (a < (rs.length : Int)) = True := eq_true (by omega)
  have q99 : ((rs.length : Int) ≤ a) = False := eq_false (by omega)
  have p100 : (0 ≤ b) = True := eq_true (by omega)
  have q100 : (b < 0) = False := eq_false (by omega)
  have p101 : (b < (rs.length : Int)) = True := eq_true (by omega)
  have q101 : ((rs.length : Int) ≤ b) = False := eq_false (by omega)
  have p102 : (a ≤ b) = True := eq_true (by omega)
  have q102 : (b < a) = False := eq_false (by omega)
  have p103 : (a = b) = True := eq_true (by omega)
  have q103 : (a == b) = true := beq_iff_eq.mpr (by omega)
  have r103 : (a != b) = false := by rw [bne, q103]; rfl
  have p104 : (j ≤ i) = False := eq_false (by omega)
  have q104 : (i < j) = True := eq_true (by omega)
  have p105 : (i < 0) = False := eq_false (by omega)
  have q105 : (0 ≤ i) = True := eq_true (by omega)
  have p106 : ((xsa.length : Int) ≤ i) = False := eq_false (by omega)
  have q106 : (i < (xsa.length : Int)) = True := eq_true (by omega)
  have p107 : (j < 0) = False := eq_false (by omega)
  have q107 : (0 ≤ j) = True := eq_true (by omega)
  have p108 : ((xsb.length : Int) ≤ j) = True := eq_true (by omega)
  have q108 : (j < (xsb.length : Int)) = False := eq_false (by omega)
  clear ha hal hb0 hbl h
  clear hxa hva hxb hvb
  go_enter Try.func30, Try.ntmps30
  go_wp2_with (first | ((with_reducible refine gate_dst (N := 2) rfl ?_); refine box_event ?hg (N := 2) ?hd (cs := #[.int .i64 k, .int .i64 a, .int .i64 i, .int .i64 b, .int .i64 j, .int .i64 n]) (t := 29) ?hr ?_; (case hd => rfl); (case hg => rfl); (case hr => first | (go_simp; done) | (go_simp; rfl)); intro gm hg_ wv hbox hb; have BM := Aside0.mk hbox; have GM := Aside0.mk (Nat.le_of_eq hg_.symm); have NG := Aside0.mk (show g < gm by rw [hg_]; exact RT.lt HT.out); replace HB := Aside0.mk (below_step HB.out hb); replace HT := Aside0.mk (RT.below HT.out hb); clear hb hbox hg_; have hm1 : wv.cell? ⟨gm, 1, none⟩ = some (.int .i64 a) := (blk_cell BM.out 1).trans rfl; have hm2 : wv.cell? ⟨gm, 2, none⟩ = some (.int .i64 i) := (blk_cell BM.out 2).trans rfl; have hm3 : wv.cell? ⟨gm, 3, none⟩ = some (.int .i64 b) := (blk_cell BM.out 3).trans rfl; have hm4 : wv.cell? ⟨gm, 4, none⟩ = some (.int .i64 j) := (blk_cell BM.out 4).trans rfl; have hs1 := (RT.cell1 HT.out (j := a.toNat) HIa.out).trans (congrArg some HVa.out); have hs2 := (RT.cell1 HT.out (j := b.toNat) HIb.out).trans (congrArg some HVb.out)))
  go_quiet (fail)
  go_wp2
  first | go_ret | go_ret2
  exact ⟨svs, rfl, pw_below_drewN HB.out _, RT.below HT.out (pw_below_drewN (Below.refl _ _) _)⟩
set_option maxHeartbeats 8000000 in
set_option maxRecDepth 100000 in
theorem ex_y0 (W0 : World) (g cap : Nat) (rs : List Rt) (svs : List (Option Addr × Nat)) (k a i b j n : Int) (w : World) (hb : Below W0.heap.size W0 w) (hT : RT w W0.heap.size g cap rs svs) (ha : 0 ≤ a) (hal : a < rs.length) (hb0 : 0 ≤ b) (hbl : b < rs.length) (h : (a < b) ∧ 0 ≤ i ∧ i < ((st rs a.toNat).length : Int) ∧ 0 ≤ j ∧ j < ((st rs b.toNat).length : Int)) : Calls Try.prog 30 #[.agg #[.int .i64 k, .int .i64 a, .int .i64 i, .int .i64 b, .int .i64 j, .int .i64 n], .slice (some ⟨g, 0, none⟩) rs.length cap] w fun e w' => ∃ svs', e = .returned (.bool (exS rs a b i j).1) ∧ Below W0.heap.size W0 w' ∧ RT w' W0.heap.size g cap (exS rs a b i j).2 svs' := by
  have HR := Aside0.mk (show (true, (rs.set a.toNat (tr rs a.toNat, (st rs a.toNat).set i.toNat ((st rs b.toNat).getD j.toNat 0))).set b.toNat (tr (rs.set a.toNat (tr rs a.toNat, (st rs a.toNat).set i.toNat ((st rs b.toNat).getD j.toNat 0))) b.toNat, (st (rs.set a.toNat (tr rs a.toNat, (st rs a.toNat).set i.toNat ((st rs b.toNat).getD j.toNat 0))) b.toNat).set j.toNat ((st rs a.toNat).getD i.toNat 0))) = exS rs a b i j by unfold exS; rw [if_pos (by omega)])
  obtain ⟨i, rfl⟩ := Int.eq_ofNat_of_zero_le (show 0 ≤ i by omega)
  obtain ⟨j, rfl⟩ := Int.eq_ofNat_of_zero_le (show 0 ≤ j by omega)
  obtain ⟨xsa, hxa⟩ : ∃ xs, st rs a.toNat = xs := ⟨_, rfl⟩
  obtain ⟨ba, ca, hva, hbba, hbla⟩ := RT.form hT (by omega) hxa (by rw [← hxa]; omega)
  have HXa := Aside0.mk hxa
  have HVa := Aside0.mk hva
  have HBBa := Aside0.mk hbba
  have HBLa := Aside0.mk hbla
  obtain ⟨xsb, hxb⟩ : ∃ xs, st rs b.toNat = xs := ⟨_, rfl⟩
  obtain ⟨bb, cb, hvb, hbbb, hblb⟩ := RT.form hT (by omega) hxb (by rw [← hxb]; omega)
  have HXb := Aside0.mk hxb
  have HVb := Aside0.mk hvb
  have HBBb := Aside0.mk hbbb
  have HBLb := Aside0.mk hblb
  have HB := Aside0.mk hb
  have HT := Aside0.mk hT
  have HA := Aside0.mk ha
  have HAL := Aside0.mk hal
  clear hb hT
  have HIa := Aside0.mk (show a.toNat < rs.length by omega)
  have HIb := Aside0.mk (show b.toNat < rs.length by omega)
  rw [hxa, hxb] at h
  rw [← HR.out]
  simp only [Int.toNat_natCast]
  rw [hxa, hxb]
  have HIA := Aside0.mk (show i < xsa.length by omega)
  have HJB := Aside0.mk (show j < xsb.length by omega)
  obtain ⟨x, hxx⟩ : ∃ x, xsa.getD i 0 = x := ⟨_, rfl⟩
  obtain ⟨y, hyy⟩ : ∃ y, xsb.getD j 0 = y := ⟨_, rfl⟩
  have HXX := Aside0.mk hxx
  have HYY := Aside0.mk hyy
  rw [hxx, hyy]
  have hbne : ba ≠ bb := by
    intro e
    have := HT.out.2.2.2.2 a.toNat b.toNat HIa.out HIb.out (by omega) ba (by rw [hva]; rfl)
    exact this (by rw [hvb, e]; rfl)
  have hb1 : (ba = bb) = False := eq_false hbne
  have hb2 : (bb = ba) = False := eq_false (Ne.symm hbne)
  have hb3 : (ba == bb) = false := beq_eq_false_iff_ne.mpr hbne
  have hb4 : (bb == ba) = false := beq_eq_false_iff_ne.mpr (Ne.symm hbne)
  have HBN := Aside0.mk hbne
  clear hbne
  have p109 : (0 ≤ a) = True := eq_true (by omega)
  have q109 : (a < 0) = False := eq_false (by omega)
  have p110 : (a < (rs.length : Int)) = True := eq_true (by omega)
  have q110 : ((rs.length : Int) ≤ a) = False := eq_false (by omega)
  have p111 : (0 ≤ b) = True := eq_true (by omega)
  have q111 : (b < 0) = False := eq_false (by omega)
  have p112 : (b < (rs.length : Int)) = True := eq_true (by omega)
  have q112 : ((rs.length : Int) ≤ b) = False := eq_false (by omega)
  have p113 : (a ≤ b) = True := eq_true (by omega)
  have q113 : (b < a) = False := eq_false (by omega)
  have p114 : (a = b) = False := eq_false (by omega)
  have q114 : (a == b) = false := beq_eq_false_iff_ne.mpr (by omega)
  have r114 : (a != b) = true := by rw [bne, q114]; rfl
  have p115 : ((i : Int) < 0) = False := eq_false (by omega)
  have q115 : (0 ≤ (i : Int)) = True := eq_true (by omega)
  have p116 : ((xsa.length : Int) ≤ (i : Int)) = False := eq_false (by omega)
  have q116 : ((i : Int) < (xsa.length : Int)) = True := eq_true (by omega)
  have p117 : ((j : Int) < 0) = False := eq_false (by omega)
  have q117 : (0 ≤ (j : Int)) = True := eq_true (by omega)
  have p118 : ((xsb.length : Int) ≤ (j : Int)) = False := eq_false (by omega)
  have q118 : ((j : Int) < (xsb.length : Int)) = True := eq_true (by omega)
  clear ha hal hb0 hbl h
  clear hxa hva hbba hbla hxb hvb hbbb hblb hxx hyy
  go_enter Try.func30, Try.ntmps30
  go_wp2_with (first | ((with_reducible refine gate_dst (N := 2) rfl ?_); refine box_event ?hg (N := 2) ?hd (cs := #[.int .i64 k, .int .i64 a, .int .i64 i, .int .i64 b, .int .i64 j, .int .i64 n]) (t := 29) ?hr ?_; (case hd => rfl); (case hg => rfl); (case hr => first | (go_simp; done) | (go_simp; rfl)); intro gm hg_ wv hbox hb; have BM := Aside0.mk hbox; have GM := Aside0.mk (Nat.le_of_eq hg_.symm); have NG := Aside0.mk (show g < gm by rw [hg_]; exact RT.lt HT.out); replace HB := Aside0.mk (below_step HB.out hb); replace HT := Aside0.mk (RT.below HT.out hb); clear hb hbox hg_; have hm1 : wv.cell? ⟨gm, 1, none⟩ = some (.int .i64 a) := (blk_cell BM.out 1).trans rfl; have hm2 : wv.cell? ⟨gm, 2, none⟩ = some (.int .i64 i) := (blk_cell BM.out 2).trans rfl; have hm3 : wv.cell? ⟨gm, 3, none⟩ = some (.int .i64 b) := (blk_cell BM.out 3).trans rfl; have hm4 : wv.cell? ⟨gm, 4, none⟩ = some (.int .i64 j) := (blk_cell BM.out 4).trans rfl; have hs1 := (RT.cell1 HT.out (j := a.toNat) HIa.out).trans (congrArg some HVa.out); have hs2 := (RT.cell1 HT.out (j := b.toNat) HIb.out).trans (congrArg some HVb.out)))
  go_quiet (fail)
  go_wp2
  obtain ⟨hca, hfa⟩ := RT.cellat HT.out HIa.out HXa.out HVa.out HIA.out
  obtain ⟨hcb, hfb⟩ := RT.cellat HT.out HIb.out HXb.out HVb.out HJB.out
  rw [HXX.out] at hca
  rw [HYY.out] at hcb
  have hga : (ba = gm) = False := eq_false (by have := GM.out; have := HBLa.out; omega)
  have hga' : (gm = ba) = False := eq_false (by have := GM.out; have := HBLa.out; omega)
  have hgb : (bb = gm) = False := eq_false (by have := GM.out; have := HBLb.out; omega)
  have hgb' : (gm = bb) = False := eq_false (by have := GM.out; have := HBLb.out; omega)
  have p9 : ((i : Int) < (xsa.length : Int)) = True := eq_true (by have := HIA.out; omega)
  have p10 : ((j : Int) < (xsb.length : Int)) = True := eq_true (by have := HJB.out; omega)
  go_region
  go_wp2
  first | go_ret | go_ret2
  exact ⟨svs, rfl, below_set (below_set (pw_below_drewN HB.out _) HBBa.out) HBBb.out, RT.swap2 HT.out _ HIa.out HIb.out HXa.out HXb.out HVa.out HVb.out HIA.out HJB.out (fun e => HBN.out (by have h1 := HVa.out; rw [e] at h1; have := h1.symm.trans HVb.out; simp only [Value.slice.injEq, Option.some.injEq, Addr.mk.injEq, and_true] at this; exact this.1))⟩
set_option maxHeartbeats 8000000 in
set_option maxRecDepth 100000 in
theorem ex_y1 (W0 : World) (g cap : Nat) (rs : List Rt) (svs : List (Option Addr × Nat)) (k a i b j n : Int) (w : World) (hb : Below W0.heap.size W0 w) (hT : RT w W0.heap.size g cap rs svs) (ha : 0 ≤ a) (hal : a < rs.length) (hb0 : 0 ≤ b) (hbl : b < rs.length) (h : (a = b ∧ i < j) ∧ 0 ≤ i ∧ i < ((st rs a.toNat).length : Int) ∧ 0 ≤ j ∧ j < ((st rs b.toNat).length : Int)) : Calls Try.prog 30 #[.agg #[.int .i64 k, .int .i64 a, .int .i64 i, .int .i64 b, .int .i64 j, .int .i64 n], .slice (some ⟨g, 0, none⟩) rs.length cap] w fun e w' => ∃ svs', e = .returned (.bool (exS rs a b i j).1) ∧ Below W0.heap.size W0 w' ∧ RT w' W0.heap.size g cap (exS rs a b i j).2 svs' := by
  have HR := Aside0.mk (show (true, (rs.set a.toNat (tr rs a.toNat, (st rs a.toNat).set i.toNat ((st rs b.toNat).getD j.toNat 0))).set b.toNat (tr (rs.set a.toNat (tr rs a.toNat, (st rs a.toNat).set i.toNat ((st rs b.toNat).getD j.toNat 0))) b.toNat, (st (rs.set a.toNat (tr rs a.toNat, (st rs a.toNat).set i.toNat ((st rs b.toNat).getD j.toNat 0))) b.toNat).set j.toNat ((st rs a.toNat).getD i.toNat 0))) = exS rs a b i j by unfold exS; rw [if_pos (by omega)])
  obtain ⟨i, rfl⟩ := Int.eq_ofNat_of_zero_le (show 0 ≤ i by omega)
  obtain ⟨j, rfl⟩ := Int.eq_ofNat_of_zero_le (show 0 ≤ j by omega)
  obtain ⟨xsa, hxa⟩ : ∃ xs, st rs a.toNat = xs := ⟨_, rfl⟩
  obtain ⟨ba, ca, hva, hbba, hbla⟩ := RT.form hT (by omega) hxa (by rw [← hxa]; omega)
  have HXa := Aside0.mk hxa
  have HVa := Aside0.mk hva
  have HBBa := Aside0.mk hbba
  have HBLa := Aside0.mk hbla
  obtain ⟨xsb, hxb⟩ : ∃ xs, st rs b.toNat = xs := ⟨_, rfl⟩
  obtain ⟨bb, cb, hvb, hbbb, hblb⟩ := RT.form hT (by omega) hxb (by rw [← hxb]; omega)
  have HXb := Aside0.mk hxb
  have HVb := Aside0.mk hvb
  have HBBb := Aside0.mk hbbb
  have HBLb := Aside0.mk hblb
  have HB := Aside0.mk hb
  have HT := Aside0.mk hT
  have HA := Aside0.mk ha
  have HAL := Aside0.mk hal
  clear hb hT
  have HIa := Aside0.mk (show a.toNat < rs.length by omega)
  have HIb := Aside0.mk (show b.toNat < rs.length by omega)
  rw [hxa, hxb] at h
  rw [← HR.out]
  simp only [Int.toNat_natCast]
  rw [hxa, hxb]
  have HIA := Aside0.mk (show i < xsa.length by omega)
  have HJB := Aside0.mk (show j < xsb.length by omega)
  obtain ⟨x, hxx⟩ : ∃ x, xsa.getD i 0 = x := ⟨_, rfl⟩
  obtain ⟨y, hyy⟩ : ∃ y, xsb.getD j 0 = y := ⟨_, rfl⟩
  have HXX := Aside0.mk hxx
  have HYY := Aside0.mk hyy
  rw [hxx, hyy]
  obtain rfl : a = b := by omega
  obtain rfl : xsa = xsb := by rw [← hxa, ← hxb]
  obtain ⟨rfl, rfl⟩ : ba = bb ∧ ca = cb := by
    have := hva.symm.trans hvb
    simp only [Value.slice.injEq, Option.some.injEq, Addr.mk.injEq, and_true, true_and] at this
    exact this
  have hb1 : (i = j) = False := eq_false (by omega)
  have hb2 : (j = i) = False := eq_false (by omega)
  have hb3 : (i == j) = false := beq_eq_false_iff_ne.mpr (by omega)
  have hb4 : (j == i) = false := beq_eq_false_iff_ne.mpr (by omega)
  have HBN := Aside0.mk (show i < j by omega)
  have p119 : (0 ≤ a) = True := eq_true (by omega)
  have q119 : (a < 0) = False := eq_false (by omega)
  have p120 : (a < (rs.length : Int)) = True := eq_true (by omega)
  have q120 : ((rs.length : Int) ≤ a) = False := eq_false (by omega)
  have p121 : (a ≤ a) = True := eq_true (by omega)
  have q121 : (a < a) = False := eq_false (by omega)
  have p122 : (a = a) = True := eq_true (by omega)
  have q122 : (a == a) = true := beq_iff_eq.mpr (by omega)
  have r122 : (a != a) = false := by rw [bne, q122]; rfl
  have p123 : ((j : Int) ≤ (i : Int)) = False := eq_false (by omega)
  have q123 : ((i : Int) < (j : Int)) = True := eq_true (by omega)
  have p124 : ((i : Int) < 0) = False := eq_false (by omega)
  have q124 : (0 ≤ (i : Int)) = True := eq_true (by omega)
  have p125 : ((xsa.length : Int) ≤ (i : Int)) = False := eq_false (by omega)
  have q125 : ((i : Int) < (xsa.length : Int)) = True := eq_true (by omega)
  have p126 : ((j : Int) < 0) = False := eq_false (by omega)
  have q126 : (0 ≤ (j : Int)) = True := eq_true (by omega)
  have p127 : ((xsa.length : Int) ≤ (j : Int)) = False := eq_false (by omega)
  have q127 : ((j : Int) < (xsa.length : Int)) = True := eq_true (by omega)
  clear ha hal hb0 hbl h
  clear hxa hva hbba hbla hxb hvb hbbb hblb hxx hyy
  go_enter Try.func30, Try.ntmps30
  go_wp2_with (first | ((with_reducible refine gate_dst (N := 2) rfl ?_); refine box_event ?hg (N := 2) ?hd (cs := #[.int .i64 k, .int .i64 a, .int .i64 i, .int .i64 a, .int .i64 j, .int .i64 n]) (t := 29) ?hr ?_; (case hd => rfl); (case hg => rfl); (case hr => first | (go_simp; done) | (go_simp; rfl)); intro gm hg_ wv hbox hb; have BM := Aside0.mk hbox; have GM := Aside0.mk (Nat.le_of_eq hg_.symm); have NG := Aside0.mk (show g < gm by rw [hg_]; exact RT.lt HT.out); replace HB := Aside0.mk (below_step HB.out hb); replace HT := Aside0.mk (RT.below HT.out hb); clear hb hbox hg_; have hm1 : wv.cell? ⟨gm, 1, none⟩ = some (.int .i64 a) := (blk_cell BM.out 1).trans rfl; have hm2 : wv.cell? ⟨gm, 2, none⟩ = some (.int .i64 i) := (blk_cell BM.out 2).trans rfl; have hm3 : wv.cell? ⟨gm, 3, none⟩ = some (.int .i64 a) := (blk_cell BM.out 3).trans rfl; have hm4 : wv.cell? ⟨gm, 4, none⟩ = some (.int .i64 j) := (blk_cell BM.out 4).trans rfl; have hs1 := (RT.cell1 HT.out (j := a.toNat) HIa.out).trans (congrArg some HVa.out)))
  go_quiet (fail)
  go_wp2
  obtain ⟨hca, hfa⟩ := RT.cellat HT.out HIa.out HXa.out HVa.out HIA.out
  obtain ⟨hcb, hfb⟩ := RT.cellat HT.out HIa.out HXa.out HVa.out HJB.out
  rw [HXX.out] at hca
  rw [HYY.out] at hcb
  have hga : (ba = gm) = False := eq_false (by have := GM.out; have := HBLa.out; omega)
  have hga' : (gm = ba) = False := eq_false (by have := GM.out; have := HBLa.out; omega)
  have p9 : ((i : Int) < (xsa.length : Int)) = True := eq_true (by have := HIA.out; omega)
  have p10 : ((j : Int) < (xsa.length : Int)) = True := eq_true (by have := HJB.out; omega)
  go_region
  go_wp2
  first | go_ret | go_ret2
  exact ⟨svs, rfl, below_set (below_set (pw_below_drewN HB.out _) HBBa.out) HBBb.out, RT.swap1 HT.out _ HIa.out HXa.out HVa.out HIA.out HJB.out⟩
end Go.Proofs.Ytcofibbgdnbejaa.Mv5
