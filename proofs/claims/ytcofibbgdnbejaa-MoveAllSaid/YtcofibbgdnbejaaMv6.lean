/- move.chain over routes in memory. -/
import Derived.Test.YtcofibbgdnbejaaMv5
namespace Go.Proofs.Ytcofibbgdnbejaa.Mv6
open Go.RowKit Go.Proofs.YtcofibbgdnbejaaW.PrintWords Go.Proofs.YtcofibbgdnbejaaW.PrintLast Go.Proofs.YtcofibbgdnbejaaW.PrintMore Go.Proofs.Ytcofibbgdnbejaa.Ints Go.Proofs.Ytcofibbgdnbejaa.Mv1 Go.Proofs.Ytcofibbgdnbejaa.Mv2 Go.Proofs.Ytcofibbgdnbejaa.Mv3 Go.Proofs.Ytcofibbgdnbejaa.Mv5
attribute [local go_sem] max2_int min2_int max_two min_two max_three min_three max_four min_four
set_option linter.unusedVariables false
set_option linter.unusedSimpArgs false
section
variable {w w1 : World} {base g cap : Nat} {rs : List Rt} {svs : List (Option Addr × Nat)}
def tkS (xs : List Int) (i q : Nat) : List Int := (xs.take (i + q)).drop i
theorem tkS_len {xs : List Int} {i q : Nat} (h : i + q ≤ xs.length) : (tkS xs i q).length = q := by
  unfold tkS
  simp
  omega
theorem RT.cut (h : RT w base g cap rs svs) {j : Nat} (hj : j < rs.length) {xs : List Int} (hx : st rs j = xs) {b c : Nat} (hv : vl rs svs j = .slice (some ⟨b, 0, none⟩) xs.length c) {i q : Nat} (hq : 0 < q) (hi : i + q ≤ xs.length) : CI w (some ⟨b, i, none⟩) (tkS xs i q) := by
  have hR := RT.stops h hj
  rw [hv, hx] at hR
  have hc := (ownCap (ownAt h hj hx hv))
  have := Kd.C_mid (lo := i) (hi := i + q) (Kd.R_reads' hR).2.2 (by omega) hi hc
  rw [if_neg (by omega), show i * (Kd.int IntKind.i64).sz = i from Nat.mul_one i] at this
  have e : (some (⟨b, 0, none⟩ : Addr)).map (·.add i) = some ⟨b, i, none⟩ := by simp [Addr.add]; intro h; exact h.symm
  rw [e] at this
  exact this
theorem clone2 (A0 : Option Addr) (c0 m : Nat) (l0 : List Int) (w : World) (hr0 : CI w A0 l0) (hm : m = l0.length) (hL : l0.length < 1099511627776) :
    Calls Try.prog 28 #[.slice A0 m c0] w fun e w' => ∃ v0_ : Value, e = .returned (v0_) ∧ RI w' w.heap.size (fun _ => True) v0_ l0 ∧ Below w.heap.size w w' := by
  subst hm
  exact clone A0 c0 l0 w hr0 hL
theorem blk_of_RI {w : World} {base : Nat} {ok : Nat → Prop} {v : Value} {xs : List Int} (h : RI w base ok v xs) (hp : 0 < xs.length) : ∃ vb vc cv, v = .slice (some ⟨vb, 0, none⟩) xs.length vc ∧ base ≤ vb ∧ w.heap[vb]? = some (.cells cv 3 (0, 0)) ∧ cv.toList.take xs.length = es xs := by
  rcases (own_RI h).2 with ⟨_, h2⟩ | ⟨g', cap', cur, hv, hbg, hg, hnc, hcm, hcs, hct⟩
  · omega
  · rw [Nat.mul_one] at hct
    exact ⟨g', cap', cur, hv, hbg, hg, hct⟩
theorem RT.own_lt (h : RT w base g cap rs svs) {j : Nat} (hj : j < rs.length) : ∀ k, (vl rs svs j).ownBlock = some k → k < w.heap.size := Kd.R_lt (RT.stops h hj)
theorem del2 (base : Nat) (xs : List Int) (i q : Nat) (J : Int) (A : Option Addr) (c : Nat) (w : World) (ho : w.ownsRow base 3 1 (.slice A xs.length c) xs.length (es xs)) (hJ : J = ((i + q : Nat) : Int)) (hj : i + q ≤ xs.length) (ys : List Int) (hys : xs.take i ++ xs.drop (i + q) = ys) :
    Calls Try.prog 39 #[.slice A xs.length c, .int .i64 (i : Int), .int .i64 J] w fun e w' => e = .returned (.slice A ys.length c) ∧ w'.ownsRow base 3 1 (.slice A ys.length c) ys.length (es ys) ∧ w.grownBy w' (Value.slice A xs.length c).ownBlock := by
  subst hJ
  subst hys
  exact del base xs i (i + q) A c w ho (by omega) hj
theorem svs_same {j : Nat} (hj : j < svs.length) {A : Option Addr} {n c : Nat} (hv : vl rs svs j = .slice A n c) : svs.set j (A, c) = svs := by
  unfold vl at hv
  injection hv with h1 _ h3
  have : svs[j] = (A, c) := by
    have e : svs.getD j (none, 0) = svs[j] := by simp [hj]
    rw [e] at h1 h3
    exact Prod.ext h1 h3
  rw [← this]
  exact List.set_getElem_self hj
theorem RT.put_same (h : RT w base g cap rs svs) {j : Nat} (hj : j < rs.length) {A : Option Addr} {n c : Nat} (hv : vl rs svs j = .slice A n c) {s1 : List Int} (hg : w.grownBy w1 (Value.slice A n c).ownBlock) (ho : w1.ownsRow base 3 1 (.slice A s1.length c) s1.length (es s1)) :
    RT (w1.setCell ⟨g, j * 2 + 1, none⟩ (.slice A s1.length c)) base g cap (rs.set j (tr rs j, s1)) svs ∧ w1.grownBy (w1.setCell ⟨g, j * 2 + 1, none⟩ (.slice A s1.length c)) (some g) := by
  have hl : j < svs.length := by have := h.1; omega
  have e1 : (Value.slice A n c).ownBlock = (vl rs svs j).ownBlock := by rw [hv]
  have e2 : (Value.slice A s1.length c).ownBlock = (vl rs svs j).ownBlock := by rw [hv]; cases A <;> rfl
  have := RT.put h hj (A1 := A) (c1 := c) (s1 := s1) hg (.inr e1) (RI_of ho rfl) (.inr (.inl e2))
  rw [svs_same hl hv] at this
  exact this
theorem RT.put_new (h : RT w base g cap rs svs) {j : Nat} (hj : j < rs.length) {A : Option Addr} {n c : Nat} (hv : vl rs svs j = .slice A n c) {s1 : List Int} {v1 : Value} (hg : w.grownBy w1 (Value.slice A n c).ownBlock) (ho : w1.ownsRow base 3 1 v1 s1.length (es s1)) (hat : v1.ownBlock = (Value.slice A n c).ownBlock ∨ ∃ b, v1.ownBlock = some b ∧ w.heap.size ≤ b) :
    ∃ svs', RT (w1.setCell ⟨g, j * 2 + 1, none⟩ v1) base g cap (rs.set j (tr rs j, s1)) svs' ∧ w1.grownBy (w1.setCell ⟨g, j * 2 + 1, none⟩ v1) (some g) := by
  have hR := RI_of ho rfl
  obtain ⟨A1, c1, rfl⟩ := Kd.R_slice hR
  have e1 : (Value.slice A n c).ownBlock = (vl rs svs j).ownBlock := by rw [hv]
  rw [e1] at hg hat
  exact ⟨_, RT.put h hj hg (.inr rfl) hR (.inr hat)⟩
theorem RT.cell1_grown (h : RT w base g cap rs svs) {j i : Nat} (hj : j < rs.length) (hi : i < rs.length) (hg : w.grownBy w1 (vl rs svs i).ownBlock) : w1.cell? ⟨g, j * 2 + 1, none⟩ = some (vl rs svs j) ∧ w1.frozen? ⟨g, j * 2 + 1, none⟩ = false := by
  have hne := RT.own_ne h hi
  obtain ⟨_, _, ⟨cur, hgc, _, _, _, hc⟩, _⟩ := h
  have hgc1 := blk_grown hgc hg (Ne.symm hne)
  rw [blk_cell hgc1]
  exact ⟨(hc j hj).2, blk_frozen hgc1 _⟩
theorem ob_eq (rs r1 : List Rt) (svs : List (Option Addr × Nat)) (j : Nat) : (vl rs svs j).ownBlock = (vl r1 svs j).ownBlock := by
  unfold vl
  cases (svs.getD j (none, 0)).1 <;> rfl
theorem ins2 (base : Nat) (xs vs : List Int) (i : Nat) (v : Value) (vb vc : Nat) (cv : Array Value) (w : World) (ho : w.ownsRow base 3 1 v xs.length (es xs)) (hi : i ≤ xs.length) (hm : 0 < vs.length) (hb : (xs.length + vs.length) * 8 ≤ 140737488355328)
    (hvb : w.heap[vb]? = some (.cells cv 3 (0, 0))) (hvv : cv.toList.take vs.length = es vs) (hne : v.ownBlock ≠ some vb) (hbase : base ≤ w.heap.size) (ys : List Int) (hys : xs.take i ++ vs ++ xs.drop i = ys) :
    Calls Try.prog 40 #[v, .int .i64 (i : Int), .slice (some ⟨vb, 0, none⟩) vs.length vc] w fun e w' => ∃ v', e = .returned v' ∧ w'.ownsRow base 3 1 v' ys.length (es ys) ∧ w.grownBy w' v.ownBlock ∧ (v'.ownBlock = v.ownBlock ∨ ∃ b, v'.ownBlock = some b ∧ w.heap.size ≤ b) := by
  subst hys
  exact ins base xs vs i v vb vc cv w ho hi hm hb hvb hvv hne hbase
end
def chS (rs : List Rt) (a b i j n : Int) : Bool × List Rt :=
  if 0 ≤ i ∧ i + n ≤ ((st rs a.toNat).length : Int) then
    if 0 ≤ j ∧ j ≤ ((st (rs.set a.toNat (tr rs a.toNat, (st rs a.toNat).take i.toNat ++ (st rs a.toNat).drop (i.toNat + n.toNat))) b.toNat).length : Int) then
      (true, let r1 := rs.set a.toNat (tr rs a.toNat, (st rs a.toNat).take i.toNat ++ (st rs a.toNat).drop (i.toNat + n.toNat)); r1.set b.toNat (tr r1 b.toNat, (st r1 b.toNat).take j.toNat ++ tkS (st rs a.toNat) i.toNat n.toNat ++ (st r1 b.toNat).drop j.toNat))
    else (false, rs.set a.toNat (tr rs a.toNat, (st rs a.toNat).take i.toNat ++ (st rs a.toNat).drop (i.toNat + n.toNat)))
  else (false, rs)
set_option maxHeartbeats 8000000 in
set_option maxRecDepth 100000 in
theorem ch_n1 (W0 : World) (g cap : Nat) (rs : List Rt) (svs : List (Option Addr × Nat)) (k a i b j n : Int) (w : World) (hb : Below W0.heap.size W0 w) (hT : RT w W0.heap.size g cap rs svs) (p : Int) (hp1 : 1 ≤ p) (hp3 : p ≤ 3) (hm : ∀ j, (st rs j).length ≤ 1000000) (ha : 0 ≤ a) (hal : a < rs.length) (hb0 : 0 ≤ b) (hbl : b < rs.length) (h : i < 0) : Calls Try.prog 29 #[.agg #[.int .i64 k, .int .i64 a, .int .i64 i, .int .i64 b, .int .i64 j, .int .i64 n], .slice (some ⟨g, 0, none⟩) rs.length cap, .int .i64 p] w fun e w' => ∃ svs', e = .returned (.bool (chS rs a b i j p).1) ∧ Below W0.heap.size W0 w' ∧ RT w' W0.heap.size g cap (chS rs a b i j p).2 svs' := by
  have HB := Aside0.mk hb
  have HT := Aside0.mk hT
  have HA := Aside0.mk ha
  have HAL := Aside0.mk hal
  clear hb hT
  have HIa := Aside0.mk (show a.toNat < rs.length by omega)
  obtain ⟨xsa, hxa⟩ : ∃ xs, st rs a.toNat = xs := ⟨_, rfl⟩
  obtain ⟨Aa, ca, hva⟩ := RT.vl_ rs svs a.toNat xsa hxa
  have HXa := Aside0.mk hxa
  have HVa := Aside0.mk hva
  (try rw [hxa] at h)
  have HR := Aside0.mk (show (false, rs) = chS rs a b i j p by unfold chS; rw [if_neg (by rw [hxa]; omega)])
  rw [← HR.out]
  have HWS := Aside0.mk (show wrap64 ((xsa.length : Int) - p) = (xsa.length : Int) - p by have := hm a.toNat; rw [hxa] at this; unfold wrap64; omega)
  clear hm
  have p25 : (0 ≤ a) = True := eq_true (by omega)
  have q25 : (a < 0) = False := eq_false (by omega)
  have p26 : (a < (rs.length : Int)) = True := eq_true (by omega)
  have q26 : ((rs.length : Int) ≤ a) = False := eq_false (by omega)
  have p27 : (i < 0) = True := eq_true (by omega)
  have q27 : (0 ≤ i) = False := eq_false (by omega)
  clear ha hal hb0 hbl hp1 hp3 h
  clear hxa hva
  have hw1 : wrap64 ((xsa.length : Int) - p) = (xsa.length : Int) - p := HWS.out
  go_enter Try.func29, Try.ntmps29
  go_wp2_with (first | ((with_reducible refine gate_dst (N := 3) rfl ?_); refine box_event ?hg (N := 3) ?hd (cs := #[.int .i64 k, .int .i64 a, .int .i64 i, .int .i64 b, .int .i64 j, .int .i64 n]) (t := 29) ?hr ?_; (case hd => rfl); (case hg => rfl); (case hr => first | (go_simp; done) | (go_simp; rfl)); intro gm hg_ wv hbox hb; have BM := Aside0.mk hbox; have GM := Aside0.mk (Nat.le_of_eq hg_.symm); have NG := Aside0.mk (show g < gm by rw [hg_]; exact RT.lt HT.out); replace HB := Aside0.mk (below_step HB.out hb); replace HT := Aside0.mk (RT.below HT.out hb); clear hb hbox hg_; have hm1 : wv.cell? ⟨gm, 1, none⟩ = some (.int .i64 a) := (blk_cell BM.out 1).trans rfl; have hm2 : wv.cell? ⟨gm, 2, none⟩ = some (.int .i64 i) := (blk_cell BM.out 2).trans rfl; have hs1 := (RT.cell1 HT.out (j := a.toNat) HIa.out).trans (congrArg some HVa.out)))
  first | go_ret | go_ret2
  exact ⟨svs, rfl, HB.out, HT.out⟩
set_option maxHeartbeats 8000000 in
set_option maxRecDepth 100000 in
theorem ch_n2 (W0 : World) (g cap : Nat) (rs : List Rt) (svs : List (Option Addr × Nat)) (k a i b j n : Int) (w : World) (hb : Below W0.heap.size W0 w) (hT : RT w W0.heap.size g cap rs svs) (p : Int) (hp1 : 1 ≤ p) (hp3 : p ≤ 3) (hm : ∀ j, (st rs j).length ≤ 1000000) (ha : 0 ≤ a) (hal : a < rs.length) (hb0 : 0 ≤ b) (hbl : b < rs.length) (h : 0 ≤ i ∧ ((st rs a.toNat).length : Int) < i + p) : Calls Try.prog 29 #[.agg #[.int .i64 k, .int .i64 a, .int .i64 i, .int .i64 b, .int .i64 j, .int .i64 n], .slice (some ⟨g, 0, none⟩) rs.length cap, .int .i64 p] w fun e w' => ∃ svs', e = .returned (.bool (chS rs a b i j p).1) ∧ Below W0.heap.size W0 w' ∧ RT w' W0.heap.size g cap (chS rs a b i j p).2 svs' := by
  have HB := Aside0.mk hb
  have HT := Aside0.mk hT
  have HA := Aside0.mk ha
  have HAL := Aside0.mk hal
  clear hb hT
  have HIa := Aside0.mk (show a.toNat < rs.length by omega)
  obtain ⟨xsa, hxa⟩ : ∃ xs, st rs a.toNat = xs := ⟨_, rfl⟩
  obtain ⟨Aa, ca, hva⟩ := RT.vl_ rs svs a.toNat xsa hxa
  have HXa := Aside0.mk hxa
  have HVa := Aside0.mk hva
  (try rw [hxa] at h)
  have HR := Aside0.mk (show (false, rs) = chS rs a b i j p by unfold chS; rw [if_neg (by rw [hxa]; omega)])
  rw [← HR.out]
  have HWS := Aside0.mk (show wrap64 ((xsa.length : Int) - p) = (xsa.length : Int) - p by have := hm a.toNat; rw [hxa] at this; unfold wrap64; omega)
  clear hm
  have p28 : (0 ≤ a) = True := eq_true (by omega)
  have q28 : (a < 0) = False := eq_false (by omega)
  have p29 : (a < (rs.length : Int)) = True := eq_true (by omega)
  have q29 : ((rs.length : Int) ≤ a) = False := eq_false (by omega)
  have p30 : (i < 0) = False := eq_false (by omega)
  have q30 : (0 ≤ i) = True := eq_true (by omega)
  have p31 : ((xsa.length : Int) - p < i) = True := eq_true (by omega)
  have q31 : (i ≤ (xsa.length : Int) - p) = False := eq_false (by omega)
  clear ha hal hb0 hbl hp1 hp3 h
  clear hxa hva
  have hw1 : wrap64 ((xsa.length : Int) - p) = (xsa.length : Int) - p := HWS.out
  go_enter Try.func29, Try.ntmps29
  go_wp2_with (first | ((with_reducible refine gate_dst (N := 3) rfl ?_); refine box_event ?hg (N := 3) ?hd (cs := #[.int .i64 k, .int .i64 a, .int .i64 i, .int .i64 b, .int .i64 j, .int .i64 n]) (t := 29) ?hr ?_; (case hd => rfl); (case hg => rfl); (case hr => first | (go_simp; done) | (go_simp; rfl)); intro gm hg_ wv hbox hb; have BM := Aside0.mk hbox; have GM := Aside0.mk (Nat.le_of_eq hg_.symm); have NG := Aside0.mk (show g < gm by rw [hg_]; exact RT.lt HT.out); replace HB := Aside0.mk (below_step HB.out hb); replace HT := Aside0.mk (RT.below HT.out hb); clear hb hbox hg_; have hm1 : wv.cell? ⟨gm, 1, none⟩ = some (.int .i64 a) := (blk_cell BM.out 1).trans rfl; have hm2 : wv.cell? ⟨gm, 2, none⟩ = some (.int .i64 i) := (blk_cell BM.out 2).trans rfl; have hs1 := (RT.cell1 HT.out (j := a.toNat) HIa.out).trans (congrArg some HVa.out)))
  first | go_ret | go_ret2
  exact ⟨svs, rfl, HB.out, HT.out⟩
set_option maxHeartbeats 8000000 in
set_option maxRecDepth 100000 in
theorem ch_n3 (W0 : World) (g cap : Nat) (rs : List Rt) (svs : List (Option Addr × Nat)) (k a i b j n : Int) (w : World) (hb : Below W0.heap.size W0 w) (hT : RT w W0.heap.size g cap rs svs) (p : Int) (hp1 : 1 ≤ p) (hp3 : p ≤ 3) (hm : ∀ j, (st rs j).length ≤ 1000000) (ha : 0 ≤ a) (hal : a < rs.length) (hb0 : 0 ≤ b) (hbl : b < rs.length) (h : 0 ≤ i ∧ i + p ≤ ((st rs a.toNat).length : Int)) (hj : j < 0) : Calls Try.prog 29 #[.agg #[.int .i64 k, .int .i64 a, .int .i64 i, .int .i64 b, .int .i64 j, .int .i64 n], .slice (some ⟨g, 0, none⟩) rs.length cap, .int .i64 p] w fun e w' => ∃ svs', e = .returned (.bool (chS rs a b i j p).1) ∧ Below W0.heap.size W0 w' ∧ RT w' W0.heap.size g cap (chS rs a b i j p).2 svs' := by
  unfold chS
  rw [if_pos h, if_neg (by omega)]
  obtain ⟨i, rfl⟩ := Int.eq_ofNat_of_zero_le h.1
  obtain ⟨q, rfl⟩ := Int.eq_ofNat_of_zero_le (show 0 ≤ p by omega)
  obtain ⟨xsa, hxa⟩ : ∃ xs, st rs a.toNat = xs := ⟨_, rfl⟩
  obtain ⟨ba, ca, hva, hbba, hbla⟩ := RT.form hT (by omega) hxa (by rw [← hxa]; omega)
  have HXa := Aside0.mk hxa
  have HVa := Aside0.mk hva
  have HBBa := Aside0.mk hbba
  have HBLa := Aside0.mk hbla
  have HB := Aside0.mk hb
  have HT := Aside0.mk hT
  have HA := Aside0.mk ha
  have HAL := Aside0.mk hal
  clear hb hT
  have HIa := Aside0.mk (show a.toNat < rs.length by omega)
  have HIb := Aside0.mk (show b.toNat < rs.length by omega)
  rw [hxa] at h
  have hma := hm a.toNat
  rw [hxa] at hma
  have HQ := Aside0.mk (show 0 < q by omega)
  have HQ3 := Aside0.mk (show q ≤ 3 by omega)
  have HIQ := Aside0.mk (show i + q ≤ xsa.length by omega)
  obtain ⟨tk, htk⟩ : ∃ tk, tkS xsa i q = tk := ⟨_, rfl⟩
  have HTK := Aside0.mk htk
  have HTKL := Aside0.mk (show tk.length = q by rw [← htk]; exact tkS_len HIQ.out)
  obtain ⟨ys, hys⟩ : ∃ ys, xsa.take i ++ xsa.drop (i + q) = ys := ⟨_, rfl⟩
  have HYS := Aside0.mk hys
  obtain ⟨r1, hr1⟩ : ∃ r1, rs.set a.toNat (tr rs a.toNat, ys) = r1 := ⟨_, rfl⟩
  have HR1 := Aside0.mk hr1
  simp only [Int.toNat_natCast]
  (try simp only [Int.toNat_natCast] at hj)
  (try rw [hxa, hys, hr1] at hj)
  (try rw [hys, hr1])
  (try rw [hxa, hys, hr1])
  obtain ⟨xsb, hxb⟩ : ∃ xs, st r1 b.toNat = xs := ⟨_, rfl⟩
  obtain ⟨Ab, cb, hvb⟩ := RT.vl_ r1 svs b.toNat xsb hxb
  have HXb := Aside0.mk hxb
  have HVb := Aside0.mk hvb
  have HJb := Aside0.mk (show b.toNat < r1.length by rw [← hr1, List.length_set]; exact HIb.out)
  have HMB := Aside0.mk (show xsb.length ≤ 1000000 by
    have := hm b.toNat
    by_cases e : b.toNat = a.toNat
    · rw [← hxb, ← hr1, e, st_self HIa.out, ← hys]
      simp
      omega
    · rw [← hxb, ← hr1, st_ne e]
      exact this)
  (try rw [hxb] at hj)
  have HWS := Aside0.mk (show wrap64 ((xsa.length : Int) - (q : Int)) = (xsa.length : Int) - (q : Int) by have := hm a.toNat; rw [hxa] at this; unfold wrap64; omega)
  have HWI := Aside0.mk (show wrap64 ((i : Int) + (q : Int)) = (i : Int) + (q : Int) by unfold wrap64; omega)
  have hci : (ca = i) = False := eq_false (by have := ownCap (ownAt HT.out HIa.out hxa hva); omega)
  have hjc : ((i : Int) + (q : Int) ≤ (ca : Int)) = True := eq_true (by have := ownCap (ownAt HT.out HIa.out hxa hva); omega)
  have hj0 : (0 ≤ (i : Int) + (q : Int)) = True := eq_true (by omega)
  have hj1 : (i ≤ i + q) = True := eq_true (by omega)
  have hj2 : ((i : Int) ≤ (i : Int) + (q : Int)) = True := eq_true (by omega)
  have p32 : (0 ≤ a) = True := eq_true (by omega)
  have q32 : (a < 0) = False := eq_false (by omega)
  have p33 : (a < (rs.length : Int)) = True := eq_true (by omega)
  have q33 : ((rs.length : Int) ≤ a) = False := eq_false (by omega)
  have p34 : (0 ≤ b) = True := eq_true (by omega)
  have q34 : (b < 0) = False := eq_false (by omega)
  have p35 : (b < (rs.length : Int)) = True := eq_true (by omega)
  have q35 : ((rs.length : Int) ≤ b) = False := eq_false (by omega)
  have p36 : ((i : Int) < 0) = False := eq_false (by omega)
  have q36 : (0 ≤ (i : Int)) = True := eq_true (by omega)
  have p37 : ((xsa.length : Int) - (q : Int) < (i : Int)) = False := eq_false (by omega)
  have q37 : ((i : Int) ≤ (xsa.length : Int) - (q : Int)) = True := eq_true (by omega)
  have p38 : (j < 0) = True := eq_true (by omega)
  have q38 : (0 ≤ j) = False := eq_false (by omega)
  clear ha hal hb0 hbl hp1 hp3 h
  clear hm hma hxa hva hbba hbla htk hys hr1 hxb hvb
  clear hj
  have hw1 : wrap64 ((xsa.length : Int) - (q : Int)) = (xsa.length : Int) - (q : Int) := HWS.out
  have hw2 := HWI.out
  have hw3 : IntKind.i64.wrap ((i : Int) + (q : Int)) = (i : Int) + (q : Int) := by rw [i64_w]; exact HWI.out
  go_enter Try.func29, Try.ntmps29
  go_wp2_with (first | ((with_reducible refine gate_dst (N := 3) rfl ?_); refine box_event ?hg (N := 3) ?hd (cs := #[.int .i64 k, .int .i64 a, .int .i64 i, .int .i64 b, .int .i64 j, .int .i64 n]) (t := 29) ?hr ?_; (case hd => rfl); (case hg => rfl); (case hr => first | (go_simp; done) | (go_simp; rfl)); intro gm hg_ wv hbox hb; have BM := Aside0.mk hbox; have GM := Aside0.mk (Nat.le_of_eq hg_.symm); have NG := Aside0.mk (show g < gm by rw [hg_]; exact RT.lt HT.out); replace HB := Aside0.mk (below_step HB.out hb); replace HT := Aside0.mk (RT.below HT.out hb); clear hb hbox hg_; have hm1 : wv.cell? ⟨gm, 1, none⟩ = some (.int .i64 a) := (blk_cell BM.out 1).trans rfl; have hm2 : wv.cell? ⟨gm, 2, none⟩ = some (.int .i64 i) := (blk_cell BM.out 2).trans rfl; have hs1 := (RT.cell1 HT.out (j := a.toNat) HIa.out).trans (congrArg some HVa.out)) | (go_at_call 28; (with_reducible refine (clone2 _ _ _ tk _ (HTK.out ▸ RT.cut HT.out HIa.out HXa.out HVa.out HQ.out HIQ.out) (by have := HTKL.out; omega) (by have := HTKL.out; have := HQ3.out; omega)).mono ?_); rintro e wv ⟨v0, rfl, hR, hb⟩; clear hm1 hm2 hs1; obtain ⟨vb, vc, cv, rfl, hvb, hblk, hcv⟩ := blk_of_RI hR (by have := HTKL.out; have := HQ.out; omega); have HVB := Aside0.mk hblk; have HCV := Aside0.mk hcv; have NVG := Aside0.mk (Nat.lt_of_lt_of_le (RT.lt HT.out) hvb); have NVM := Aside0.mk (Nat.lt_of_lt_of_le (blk_lt BM.out) hvb); have LTV := Aside0.mk (fun j hj k hk => Nat.lt_of_lt_of_le (RT.own_lt HT.out (j := j) hj k hk) hvb); replace BM := Aside0.mk (blk_below BM.out hb); replace HB := Aside0.mk (below_step HB.out hb); replace HT := Aside0.mk (RT.below HT.out hb); clear hb hR hvb hblk hcv))
  refine start_ (n := 14) (S := fun w' => w'.cell? ⟨gm, 1, none⟩ = some (.int .i64 a) ∧ w'.cell? ⟨gm, 2, none⟩ = some (.int .i64 (i : Int))) (ds := [13]) #[false, false, false, false, false, false, false, false, false, false, false, false, false, false] (by kernel_rfl) rfl rfl ⟨((blk_cell BM.out 1).trans rfl), ((blk_cell BM.out 2).trans rfl)⟩ (fun hHeld => ?_)
  replace BM := Aside0.mk (show wv.drew.heap[gm]? = _ from BM.out)
  replace HVB := Aside0.mk (show wv.drew.heap[vb]? = _ from HVB.out)
  replace HT := Aside0.mk (RT.drew HT.out)
  replace HB := Aside0.mk (HB.out.drew)
  generalize wv.drew = wv at BM HVB HT HB hHeld ⊢
  refine pure_ (i := 0) (N := some 37) (v := ?_) (a' := ?_) #[true, false, false, false, false, false, false, false, false, false, false, false, false, false] rfl rfl (by kernel_rfl) (fun _ _ _ h => h) (Or.inl ⟨by rfl, ?_⟩) ?_ ?_
  rotate_left
  · intro w'
    go_simp
    with_reducible rfl
  rotate_left
  · simp only [Act.put, List.setIfInBounds_toArray, List.set_cons_zero, List.set_cons_succ, i64_w, i32_w]
    rfl
  refine pure_ (i := 1) (N := some 38) (v := ?_) (a' := ?_) #[true, true, false, false, false, false, false, false, false, false, false, false, false, false] rfl rfl (by kernel_rfl) (fun _ _ _ h => h) (Or.inl ⟨by rfl, ?_⟩) ?_ ?_
  rotate_left
  · intro w'
    go_simp
    with_reducible rfl
  rotate_left
  · simp only [Act.put, List.setIfInBounds_toArray, List.set_cons_zero, List.set_cons_succ, i64_w, i32_w]
    rfl
  refine pure_ (i := 3) (N := some 40) (v := ?_) (a' := ?_) #[true, true, false, true, false, false, false, false, false, false, false, false, false, false] rfl rfl (by kernel_rfl) (fun _ _ _ h => h) (Or.inl ⟨by rfl, ?_⟩) ?_ ?_
  rotate_left
  · intro w'
    go_simp
    with_reducible rfl
  rotate_left
  · simp only [Act.put, List.setIfInBounds_toArray, List.set_cons_zero, List.set_cons_succ, i64_w, i32_w]
    rfl
  refine pure_ (i := 4) (N := some 41) (v := ?_) (a' := ?_) #[true, true, false, true, true, false, false, false, false, false, false, false, false, false] rfl rfl (by kernel_rfl) (fun _ _ _ h => h) (Or.inl ⟨by rfl, ?_⟩) ?_ ?_
  rotate_left
  · intro w'
    go_simp
    with_reducible rfl
  rotate_left
  · simp only [Act.put, List.setIfInBounds_toArray, List.set_cons_zero, List.set_cons_succ, i64_w, i32_w]
    rfl
  refine pure_ (i := 6) (N := some 43) (v := ?_) (a' := ?_) #[true, true, false, true, true, false, true, false, false, false, false, false, false, false] rfl rfl (by kernel_rfl) (fun _ _ _ h => h) (Or.inl ⟨by rfl, ?_⟩) ?_ ?_
  rotate_left
  · intro w'
    go_simp
    with_reducible rfl
  rotate_left
  · simp only [Act.put, List.setIfInBounds_toArray, List.set_cons_zero, List.set_cons_succ, i64_w, i32_w]
    rfl
  refine pure_ (i := 8) (N := some 45) (v := ?_) (a' := ?_) #[true, true, false, true, true, false, true, false, true, false, false, false, false, false] rfl rfl (by kernel_rfl) (fun _ _ _ h => h) (Or.inl ⟨by rfl, ?_⟩) ?_ ?_
  rotate_left
  · intro w'
    go_simp
    with_reducible rfl
  rotate_left
  · simp only [Act.put, List.setIfInBounds_toArray, List.set_cons_zero, List.set_cons_succ, i64_w, i32_w]
    rfl
  refine take_ (i := 2) (N := some 39) (v := ?_) (a' := ?_) #[true, true, true, true, true, false, true, false, true, false, false, false, false, false] rfl rfl (by kernel_rfl) (fun _ _ _ h => h) (Or.inl ⟨by rfl, ?_⟩) hHeld ?_ ?_
  rotate_left
  · rintro w' ⟨s0, s1⟩
    go_simp
    with_reducible rfl
  rotate_left
  · simp only [Act.put, List.setIfInBounds_toArray, List.set_cons_zero, List.set_cons_succ, i64_w, i32_w]
    rfl
  refine take_ (i := 5) (N := some 42) (v := ?_) (a' := ?_) #[true, true, true, true, true, true, true, false, true, false, false, false, false, false] rfl rfl (by kernel_rfl) (fun _ _ _ h => h) (Or.inl ⟨by rfl, ?_⟩) hHeld ?_ ?_
  rotate_left
  · rintro w' ⟨s0, s1⟩
    go_simp
    with_reducible rfl
  rotate_left
  · simp only [Act.put, List.setIfInBounds_toArray, List.set_cons_zero, List.set_cons_succ, i64_w, i32_w]
    rfl
  refine take_ (i := 7) (N := some 44) (v := ?_) (a' := ?_) #[true, true, true, true, true, true, true, true, true, false, false, false, false, false] rfl rfl (by kernel_rfl) (fun _ _ _ h => h) (Or.inl ⟨by rfl, ?_⟩) hHeld ?_ ?_
  rotate_left
  · rintro w' ⟨s0, s1⟩
    go_simp
    with_reducible rfl
  rotate_left
  · simp only [Act.put, List.setIfInBounds_toArray, List.set_cons_zero, List.set_cons_succ, i64_w, i32_w]
    rfl
  refine pure_ (i := 9) (N := some 46) (v := ?_) (a' := ?_) #[true, true, true, true, true, true, true, true, true, true, false, false, false, false] rfl rfl (by kernel_rfl) (fun _ _ _ h => h) (Or.inl ⟨by rfl, ?_⟩) ?_ ?_
  rotate_left
  · intro w'
    go_simp
    with_reducible rfl
  rotate_left
  · simp only [Act.put, List.setIfInBounds_toArray, List.set_cons_zero, List.set_cons_succ, i64_w, i32_w]
    rfl
  refine one_ (i := 10) (N := some 47) #[true, true, true, true, true, true, true, true, true, true, true, false, false, false] rfl rfl (by kernel_rfl) (by decide) (fun K hK => ?_)
  refine goes_ Try.func39 (by kernel_rfl) rfl #[.slice (some ⟨ba, 0, none⟩) xsa.length ca, .int .i64 (i : Int), .int .i64 ((i : Int) + (q : Int))] (by rfl) rfl rfl (by first | rfl | (simp only [List.map_toArray, List.map_cons, List.map_nil]; rfl)) ?_
  with_reducible refine (del2 W0.heap.size xsa i q _ _ _ _ (ownAt HT.out HIa.out HXa.out HVa.out) (by omega) HIQ.out ys HYS.out).mono ?_
  rintro e wv ⟨rfl, ho, hg⟩
  have HG := Aside0.mk hg
  have HO := Aside0.mk ho
  have NBA := Aside0.mk (LTV.out a.toNat HIa.out ba (by rw [HVa.out]; rfl))
  replace BM := Aside0.mk (blk_grown BM.out hg (fun e => by injection e with e; have e2 : gm = ba := e; have := HBLa.out; have := GM.out; omega))
  replace HVB := Aside0.mk (blk_grown HVB.out hg (fun e => by injection e with e; have e2 : vb = ba := e; have := NBA.out; omega))
  replace HB := Aside0.mk (HB.out.grown hg (below_size HB.out) (fun z hz => by injection hz with hz; exact hz ▸ HBBa.out))
  obtain ⟨hc1, hfz⟩ := RT.cell1_grown HT.out HIa.out HIa.out (by rw [HVa.out]; exact hg)
  rw [HVa.out] at hc1
  clear hg ho
  refine ⟨_, rfl, ?_⟩
  refine hK.out _ _ ⟨((blk_cell BM.out 1).trans rfl), ((blk_cell BM.out 2).trans rfl)⟩ (fun hHeld => ?_)
  clear hK K
  refine norm_ (a' := ?_) ?_ ?_
  rotate_left
  · show Act.put _ (some 47) _ = _
    simp only [Act.put, List.setIfInBounds_toArray, List.set_cons_zero, List.set_cons_succ, i64_w, i32_w]
    rfl
  refine pure_ (i := 11) (N := some 48) (v := ?_) (a' := ?_) #[true, true, true, true, true, true, true, true, true, true, true, true, false, false] rfl rfl (by kernel_rfl) (fun _ _ _ h => h) (Or.inl ⟨by rfl, ?_⟩) ?_ ?_
  rotate_left
  · intro w'
    go_simp
    with_reducible rfl
  rotate_left
  · simp only [Act.put, List.setIfInBounds_toArray, List.set_cons_zero, List.set_cons_succ, i64_w, i32_w]
    rfl
  refine pure_ (i := 12) (N := some 49) (v := ?_) (a' := ?_) #[true, true, true, true, true, true, true, true, true, true, true, true, true, false] rfl rfl (by kernel_rfl) (fun _ _ _ h => h) (Or.inl ⟨by rfl, ?_⟩) ?_ ?_
  rotate_left
  · intro w'
    go_simp
    with_reducible rfl
  rotate_left
  · simp only [Act.put, List.setIfInBounds_toArray, List.set_cons_zero, List.set_cons_succ, i64_w, i32_w]
    rfl
  refine last_ (i := 13) (N := none) #[true, true, true, true, true, true, true, true, true, true, true, true, true, true] rfl rfl (by kernel_rfl) (by decide) (fun K hK => ?_)
  refine skip_ (w1 := ?_) (by rfl) rfl ?_ ?_
  rotate_left
  · go_simp
    rfl
  clear hc1 hfz
  obtain ⟨hT2, hG2⟩ := RT.put_same HT.out HIa.out HVa.out HG.out HO.out
  rw [HR1.out] at hT2
  replace HT := Aside0.mk hT2
  replace BM := Aside0.mk (blk_grown BM.out hG2 (fun e => by injection e with e; have := NG.out; omega))
  replace HVB := Aside0.mk (blk_grown HVB.out hG2 (fun e => by injection e with e; have := NVG.out; omega))
  replace HB := Aside0.mk (HB.out.grown hG2 (below_size HB.out) (fun z hz => by injection hz with hz; exact hz ▸ HT.out.2.1))
  clear hT2 hG2 HG HO
  generalize wv.setCell ⟨g, a.toNat * 2 + 1, none⟩ (.slice (some ⟨ba, 0, none⟩) ys.length ca) = wv at HT BM HVB HB ⊢
  refine hK.out _ _ ?_
  clear hK K
  refine done_ (by kernel_rfl) ?_
  have hm3 : wv.cell? ⟨gm, 3, none⟩ = some (.int .i64 b) := (blk_cell BM.out 3).trans rfl
  have hm4 : wv.cell? ⟨gm, 4, none⟩ = some (.int .i64 j) := (blk_cell BM.out 4).trans rfl
  have hs3 : wv.cell? ⟨g, b.toNat * 2 + 1, none⟩ = some (.slice Ab xsb.length cb) := (RT.cell1 HT.out HJb.out).trans (congrArg some HVb.out)
  go_wp2
  first | go_ret | go_ret2
  exact ⟨svs, rfl, HB.out, HT.out⟩
set_option maxHeartbeats 8000000 in
set_option maxRecDepth 100000 in
theorem ch_n4 (W0 : World) (g cap : Nat) (rs : List Rt) (svs : List (Option Addr × Nat)) (k a i b j n : Int) (w : World) (hb : Below W0.heap.size W0 w) (hT : RT w W0.heap.size g cap rs svs) (p : Int) (hp1 : 1 ≤ p) (hp3 : p ≤ 3) (hm : ∀ j, (st rs j).length ≤ 1000000) (ha : 0 ≤ a) (hal : a < rs.length) (hb0 : 0 ≤ b) (hbl : b < rs.length) (h : 0 ≤ i ∧ i + p ≤ ((st rs a.toNat).length : Int)) (hj : 0 ≤ j ∧ ((st (rs.set a.toNat (tr rs a.toNat, (st rs a.toNat).take i.toNat ++ (st rs a.toNat).drop (i.toNat + p.toNat))) b.toNat).length : Int) < j) : Calls Try.prog 29 #[.agg #[.int .i64 k, .int .i64 a, .int .i64 i, .int .i64 b, .int .i64 j, .int .i64 n], .slice (some ⟨g, 0, none⟩) rs.length cap, .int .i64 p] w fun e w' => ∃ svs', e = .returned (.bool (chS rs a b i j p).1) ∧ Below W0.heap.size W0 w' ∧ RT w' W0.heap.size g cap (chS rs a b i j p).2 svs' := by
  unfold chS
  rw [if_pos h, if_neg (by omega)]
  obtain ⟨i, rfl⟩ := Int.eq_ofNat_of_zero_le h.1
  obtain ⟨q, rfl⟩ := Int.eq_ofNat_of_zero_le (show 0 ≤ p by omega)
  obtain ⟨xsa, hxa⟩ : ∃ xs, st rs a.toNat = xs := ⟨_, rfl⟩
  obtain ⟨ba, ca, hva, hbba, hbla⟩ := RT.form hT (by omega) hxa (by rw [← hxa]; omega)
  have HXa := Aside0.mk hxa
  have HVa := Aside0.mk hva
  have HBBa := Aside0.mk hbba
  have HBLa := Aside0.mk hbla
  have HB := Aside0.mk hb
  have HT := Aside0.mk hT
  have HA := Aside0.mk ha
  have HAL := Aside0.mk hal
  clear hb hT
  have HIa := Aside0.mk (show a.toNat < rs.length by omega)
  have HIb := Aside0.mk (show b.toNat < rs.length by omega)
  rw [hxa] at h
  have hma := hm a.toNat
  rw [hxa] at hma
  have HQ := Aside0.mk (show 0 < q by omega)
  have HQ3 := Aside0.mk (show q ≤ 3 by omega)
  have HIQ := Aside0.mk (show i + q ≤ xsa.length by omega)
  obtain ⟨tk, htk⟩ : ∃ tk, tkS xsa i q = tk := ⟨_, rfl⟩
  have HTK := Aside0.mk htk
  have HTKL := Aside0.mk (show tk.length = q by rw [← htk]; exact tkS_len HIQ.out)
  obtain ⟨ys, hys⟩ : ∃ ys, xsa.take i ++ xsa.drop (i + q) = ys := ⟨_, rfl⟩
  have HYS := Aside0.mk hys
  obtain ⟨r1, hr1⟩ : ∃ r1, rs.set a.toNat (tr rs a.toNat, ys) = r1 := ⟨_, rfl⟩
  have HR1 := Aside0.mk hr1
  simp only [Int.toNat_natCast]
  (try simp only [Int.toNat_natCast] at hj)
  (try rw [hxa, hys, hr1] at hj)
  (try rw [hys, hr1])
  (try rw [hxa, hys, hr1])
  obtain ⟨xsb, hxb⟩ : ∃ xs, st r1 b.toNat = xs := ⟨_, rfl⟩
  obtain ⟨Ab, cb, hvb⟩ := RT.vl_ r1 svs b.toNat xsb hxb
  have HXb := Aside0.mk hxb
  have HVb := Aside0.mk hvb
  have HJb := Aside0.mk (show b.toNat < r1.length by rw [← hr1, List.length_set]; exact HIb.out)
  have HMB := Aside0.mk (show xsb.length ≤ 1000000 by
    have := hm b.toNat
    by_cases e : b.toNat = a.toNat
    · rw [← hxb, ← hr1, e, st_self HIa.out, ← hys]
      simp
      omega
    · rw [← hxb, ← hr1, st_ne e]
      exact this)
  (try rw [hxb] at hj)
  have HWS := Aside0.mk (show wrap64 ((xsa.length : Int) - (q : Int)) = (xsa.length : Int) - (q : Int) by have := hm a.toNat; rw [hxa] at this; unfold wrap64; omega)
  have HWI := Aside0.mk (show wrap64 ((i : Int) + (q : Int)) = (i : Int) + (q : Int) by unfold wrap64; omega)
  have hci : (ca = i) = False := eq_false (by have := ownCap (ownAt HT.out HIa.out hxa hva); omega)
  have hjc : ((i : Int) + (q : Int) ≤ (ca : Int)) = True := eq_true (by have := ownCap (ownAt HT.out HIa.out hxa hva); omega)
  have hj0 : (0 ≤ (i : Int) + (q : Int)) = True := eq_true (by omega)
  have hj1 : (i ≤ i + q) = True := eq_true (by omega)
  have hj2 : ((i : Int) ≤ (i : Int) + (q : Int)) = True := eq_true (by omega)
  have p32 : (0 ≤ a) = True := eq_true (by omega)
  have q32 : (a < 0) = False := eq_false (by omega)
  have p33 : (a < (rs.length : Int)) = True := eq_true (by omega)
  have q33 : ((rs.length : Int) ≤ a) = False := eq_false (by omega)
  have p34 : (0 ≤ b) = True := eq_true (by omega)
  have q34 : (b < 0) = False := eq_false (by omega)
  have p35 : (b < (rs.length : Int)) = True := eq_true (by omega)
  have q35 : ((rs.length : Int) ≤ b) = False := eq_false (by omega)
  have p36 : ((i : Int) < 0) = False := eq_false (by omega)
  have q36 : (0 ≤ (i : Int)) = True := eq_true (by omega)
  have p37 : ((xsa.length : Int) - (q : Int) < (i : Int)) = False := eq_false (by omega)
  have q37 : ((i : Int) ≤ (xsa.length : Int) - (q : Int)) = True := eq_true (by omega)
  have p39 : (j < 0) = False := eq_false (by omega)
  have q39 : (0 ≤ j) = True := eq_true (by omega)
  have p40 : ((xsb.length : Int) < j) = True := eq_true (by omega)
  have q40 : (j ≤ (xsb.length : Int)) = False := eq_false (by omega)
  clear ha hal hb0 hbl hp1 hp3 h
  clear hm hma hxa hva hbba hbla htk hys hr1 hxb hvb
  clear hj
  have hw1 : wrap64 ((xsa.length : Int) - (q : Int)) = (xsa.length : Int) - (q : Int) := HWS.out
  have hw2 := HWI.out
  have hw3 : IntKind.i64.wrap ((i : Int) + (q : Int)) = (i : Int) + (q : Int) := by rw [i64_w]; exact HWI.out
  go_enter Try.func29, Try.ntmps29
  go_wp2_with (first | ((with_reducible refine gate_dst (N := 3) rfl ?_); refine box_event ?hg (N := 3) ?hd (cs := #[.int .i64 k, .int .i64 a, .int .i64 i, .int .i64 b, .int .i64 j, .int .i64 n]) (t := 29) ?hr ?_; (case hd => rfl); (case hg => rfl); (case hr => first | (go_simp; done) | (go_simp; rfl)); intro gm hg_ wv hbox hb; have BM := Aside0.mk hbox; have GM := Aside0.mk (Nat.le_of_eq hg_.symm); have NG := Aside0.mk (show g < gm by rw [hg_]; exact RT.lt HT.out); replace HB := Aside0.mk (below_step HB.out hb); replace HT := Aside0.mk (RT.below HT.out hb); clear hb hbox hg_; have hm1 : wv.cell? ⟨gm, 1, none⟩ = some (.int .i64 a) := (blk_cell BM.out 1).trans rfl; have hm2 : wv.cell? ⟨gm, 2, none⟩ = some (.int .i64 i) := (blk_cell BM.out 2).trans rfl; have hs1 := (RT.cell1 HT.out (j := a.toNat) HIa.out).trans (congrArg some HVa.out)) | (go_at_call 28; (with_reducible refine (clone2 _ _ _ tk _ (HTK.out ▸ RT.cut HT.out HIa.out HXa.out HVa.out HQ.out HIQ.out) (by have := HTKL.out; omega) (by have := HTKL.out; have := HQ3.out; omega)).mono ?_); rintro e wv ⟨v0, rfl, hR, hb⟩; clear hm1 hm2 hs1; obtain ⟨vb, vc, cv, rfl, hvb, hblk, hcv⟩ := blk_of_RI hR (by have := HTKL.out; have := HQ.out; omega); have HVB := Aside0.mk hblk; have HCV := Aside0.mk hcv; have NVG := Aside0.mk (Nat.lt_of_lt_of_le (RT.lt HT.out) hvb); have NVM := Aside0.mk (Nat.lt_of_lt_of_le (blk_lt BM.out) hvb); have LTV := Aside0.mk (fun j hj k hk => Nat.lt_of_lt_of_le (RT.own_lt HT.out (j := j) hj k hk) hvb); replace BM := Aside0.mk (blk_below BM.out hb); replace HB := Aside0.mk (below_step HB.out hb); replace HT := Aside0.mk (RT.below HT.out hb); clear hb hR hvb hblk hcv))
  refine start_ (n := 14) (S := fun w' => w'.cell? ⟨gm, 1, none⟩ = some (.int .i64 a) ∧ w'.cell? ⟨gm, 2, none⟩ = some (.int .i64 (i : Int))) (ds := [13]) #[false, false, false, false, false, false, false, false, false, false, false, false, false, false] (by kernel_rfl) rfl rfl ⟨((blk_cell BM.out 1).trans rfl), ((blk_cell BM.out 2).trans rfl)⟩ (fun hHeld => ?_)
  replace BM := Aside0.mk (show wv.drew.heap[gm]? = _ from BM.out)
  replace HVB := Aside0.mk (show wv.drew.heap[vb]? = _ from HVB.out)
  replace HT := Aside0.mk (RT.drew HT.out)
  replace HB := Aside0.mk (HB.out.drew)
  generalize wv.drew = wv at BM HVB HT HB hHeld ⊢
  refine pure_ (i := 0) (N := some 37) (v := ?_) (a' := ?_) #[true, false, false, false, false, false, false, false, false, false, false, false, false, false] rfl rfl (by kernel_rfl) (fun _ _ _ h => h) (Or.inl ⟨by rfl, ?_⟩) ?_ ?_
  rotate_left
  · intro w'
    go_simp
    with_reducible rfl
  rotate_left
  · simp only [Act.put, List.setIfInBounds_toArray, List.set_cons_zero, List.set_cons_succ, i64_w, i32_w]
    rfl
  refine pure_ (i := 1) (N := some 38) (v := ?_) (a' := ?_) #[true, true, false, false, false, false, false, false, false, false, false, false, false, false] rfl rfl (by kernel_rfl) (fun _ _ _ h => h) (Or.inl ⟨by rfl, ?_⟩) ?_ ?_
  rotate_left
  · intro w'
    go_simp
    with_reducible rfl
  rotate_left
  · simp only [Act.put, List.setIfInBounds_toArray, List.set_cons_zero, List.set_cons_succ, i64_w, i32_w]
    rfl
  refine pure_ (i := 3) (N := some 40) (v := ?_) (a' := ?_) #[true, true, false, true, false, false, false, false, false, false, false, false, false, false] rfl rfl (by kernel_rfl) (fun _ _ _ h => h) (Or.inl ⟨by rfl, ?_⟩) ?_ ?_
  rotate_left
  · intro w'
    go_simp
    with_reducible rfl
  rotate_left
  · simp only [Act.put, List.setIfInBounds_toArray, List.set_cons_zero, List.set_cons_succ, i64_w, i32_w]
    rfl
  refine pure_ (i := 4) (N := some 41) (v := ?_) (a' := ?_) #[true, true, false, true, true, false, false, false, false, false, false, false, false, false] rfl rfl (by kernel_rfl) (fun _ _ _ h => h) (Or.inl ⟨by rfl, ?_⟩) ?_ ?_
  rotate_left
  · intro w'
    go_simp
    with_reducible rfl
  rotate_left
  · simp only [Act.put, List.setIfInBounds_toArray, List.set_cons_zero, List.set_cons_succ, i64_w, i32_w]
    rfl
  refine pure_ (i := 6) (N := some 43) (v := ?_) (a' := ?_) #[true, true, false, true, true, false, true, false, false, false, false, false, false, false] rfl rfl (by kernel_rfl) (fun _ _ _ h => h) (Or.inl ⟨by rfl, ?_⟩) ?_ ?_
  rotate_left
  · intro w'
    go_simp
    with_reducible rfl
  rotate_left
  · simp only [Act.put, List.setIfInBounds_toArray, List.set_cons_zero, List.set_cons_succ, i64_w, i32_w]
    rfl
  refine pure_ (i := 8) (N := some 45) (v := ?_) (a' := ?_) #[true, true, false, true, true, false, true, false, true, false, false, false, false, false] rfl rfl (by kernel_rfl) (fun _ _ _ h => h) (Or.inl ⟨by rfl, ?_⟩) ?_ ?_
  rotate_left
  · intro w'
    go_simp
    with_reducible rfl
  rotate_left
  · simp only [Act.put, List.setIfInBounds_toArray, List.set_cons_zero, List.set_cons_succ, i64_w, i32_w]
    rfl
  refine take_ (i := 2) (N := some 39) (v := ?_) (a' := ?_) #[true, true, true, true, true, false, true, false, true, false, false, false, false, false] rfl rfl (by kernel_rfl) (fun _ _ _ h => h) (Or.inl ⟨by rfl, ?_⟩) hHeld ?_ ?_
  rotate_left
  · rintro w' ⟨s0, s1⟩
    go_simp
    with_reducible rfl
  rotate_left
  · simp only [Act.put, List.setIfInBounds_toArray, List.set_cons_zero, List.set_cons_succ, i64_w, i32_w]
    rfl
  refine take_ (i := 5) (N := some 42) (v := ?_) (a' := ?_) #[true, true, true, true, true, true, true, false, true, false, false, false, false, false] rfl rfl (by kernel_rfl) (fun _ _ _ h => h) (Or.inl ⟨by rfl, ?_⟩) hHeld ?_ ?_
  rotate_left
  · rintro w' ⟨s0, s1⟩
    go_simp
    with_reducible rfl
  rotate_left
  · simp only [Act.put, List.setIfInBounds_toArray, List.set_cons_zero, List.set_cons_succ, i64_w, i32_w]
    rfl
  refine take_ (i := 7) (N := some 44) (v := ?_) (a' := ?_) #[true, true, true, true, true, true, true, true, true, false, false, false, false, false] rfl rfl (by kernel_rfl) (fun _ _ _ h => h) (Or.inl ⟨by rfl, ?_⟩) hHeld ?_ ?_
  rotate_left
  · rintro w' ⟨s0, s1⟩
    go_simp
    with_reducible rfl
  rotate_left
  · simp only [Act.put, List.setIfInBounds_toArray, List.set_cons_zero, List.set_cons_succ, i64_w, i32_w]
    rfl
  refine pure_ (i := 9) (N := some 46) (v := ?_) (a' := ?_) #[true, true, true, true, true, true, true, true, true, true, false, false, false, false] rfl rfl (by kernel_rfl) (fun _ _ _ h => h) (Or.inl ⟨by rfl, ?_⟩) ?_ ?_
  rotate_left
  · intro w'
    go_simp
    with_reducible rfl
  rotate_left
  · simp only [Act.put, List.setIfInBounds_toArray, List.set_cons_zero, List.set_cons_succ, i64_w, i32_w]
    rfl
  refine one_ (i := 10) (N := some 47) #[true, true, true, true, true, true, true, true, true, true, true, false, false, false] rfl rfl (by kernel_rfl) (by decide) (fun K hK => ?_)
  refine goes_ Try.func39 (by kernel_rfl) rfl #[.slice (some ⟨ba, 0, none⟩) xsa.length ca, .int .i64 (i : Int), .int .i64 ((i : Int) + (q : Int))] (by rfl) rfl rfl (by first | rfl | (simp only [List.map_toArray, List.map_cons, List.map_nil]; rfl)) ?_
  with_reducible refine (del2 W0.heap.size xsa i q _ _ _ _ (ownAt HT.out HIa.out HXa.out HVa.out) (by omega) HIQ.out ys HYS.out).mono ?_
  rintro e wv ⟨rfl, ho, hg⟩
  have HG := Aside0.mk hg
  have HO := Aside0.mk ho
  have NBA := Aside0.mk (LTV.out a.toNat HIa.out ba (by rw [HVa.out]; rfl))
  replace BM := Aside0.mk (blk_grown BM.out hg (fun e => by injection e with e; have e2 : gm = ba := e; have := HBLa.out; have := GM.out; omega))
  replace HVB := Aside0.mk (blk_grown HVB.out hg (fun e => by injection e with e; have e2 : vb = ba := e; have := NBA.out; omega))
  replace HB := Aside0.mk (HB.out.grown hg (below_size HB.out) (fun z hz => by injection hz with hz; exact hz ▸ HBBa.out))
  obtain ⟨hc1, hfz⟩ := RT.cell1_grown HT.out HIa.out HIa.out (by rw [HVa.out]; exact hg)
  rw [HVa.out] at hc1
  clear hg ho
  refine ⟨_, rfl, ?_⟩
  refine hK.out _ _ ⟨((blk_cell BM.out 1).trans rfl), ((blk_cell BM.out 2).trans rfl)⟩ (fun hHeld => ?_)
  clear hK K
  refine norm_ (a' := ?_) ?_ ?_
  rotate_left
  · show Act.put _ (some 47) _ = _
    simp only [Act.put, List.setIfInBounds_toArray, List.set_cons_zero, List.set_cons_succ, i64_w, i32_w]
    rfl
  refine pure_ (i := 11) (N := some 48) (v := ?_) (a' := ?_) #[true, true, true, true, true, true, true, true, true, true, true, true, false, false] rfl rfl (by kernel_rfl) (fun _ _ _ h => h) (Or.inl ⟨by rfl, ?_⟩) ?_ ?_
  rotate_left
  · intro w'
    go_simp
    with_reducible rfl
  rotate_left
  · simp only [Act.put, List.setIfInBounds_toArray, List.set_cons_zero, List.set_cons_succ, i64_w, i32_w]
    rfl
  refine pure_ (i := 12) (N := some 49) (v := ?_) (a' := ?_) #[true, true, true, true, true, true, true, true, true, true, true, true, true, false] rfl rfl (by kernel_rfl) (fun _ _ _ h => h) (Or.inl ⟨by rfl, ?_⟩) ?_ ?_
  rotate_left
  · intro w'
    go_simp
    with_reducible rfl
  rotate_left
  · simp only [Act.put, List.setIfInBounds_toArray, List.set_cons_zero, List.set_cons_succ, i64_w, i32_w]
    rfl
  refine last_ (i := 13) (N := none) #[true, true, true, true, true, true, true, true, true, true, true, true, true, true] rfl rfl (by kernel_rfl) (by decide) (fun K hK => ?_)
  refine skip_ (w1 := ?_) (by rfl) rfl ?_ ?_
  rotate_left
  · go_simp
    rfl
  clear hc1 hfz
  obtain ⟨hT2, hG2⟩ := RT.put_same HT.out HIa.out HVa.out HG.out HO.out
  rw [HR1.out] at hT2
  replace HT := Aside0.mk hT2
  replace BM := Aside0.mk (blk_grown BM.out hG2 (fun e => by injection e with e; have := NG.out; omega))
  replace HVB := Aside0.mk (blk_grown HVB.out hG2 (fun e => by injection e with e; have := NVG.out; omega))
  replace HB := Aside0.mk (HB.out.grown hG2 (below_size HB.out) (fun z hz => by injection hz with hz; exact hz ▸ HT.out.2.1))
  clear hT2 hG2 HG HO
  generalize wv.setCell ⟨g, a.toNat * 2 + 1, none⟩ (.slice (some ⟨ba, 0, none⟩) ys.length ca) = wv at HT BM HVB HB ⊢
  refine hK.out _ _ ?_
  clear hK K
  refine done_ (by kernel_rfl) ?_
  have hm3 : wv.cell? ⟨gm, 3, none⟩ = some (.int .i64 b) := (blk_cell BM.out 3).trans rfl
  have hm4 : wv.cell? ⟨gm, 4, none⟩ = some (.int .i64 j) := (blk_cell BM.out 4).trans rfl
  have hs3 : wv.cell? ⟨g, b.toNat * 2 + 1, none⟩ = some (.slice Ab xsb.length cb) := (RT.cell1 HT.out HJb.out).trans (congrArg some HVb.out)
  go_wp2
  first | go_ret | go_ret2
  exact ⟨svs, rfl, HB.out, HT.out⟩
set_option maxHeartbeats 8000000 in
set_option maxRecDepth 100000 in
theorem ch_y (W0 : World) (g cap : Nat) (rs : List Rt) (svs : List (Option Addr × Nat)) (k a i b j n : Int) (w : World) (hb : Below W0.heap.size W0 w) (hT : RT w W0.heap.size g cap rs svs) (p : Int) (hp1 : 1 ≤ p) (hp3 : p ≤ 3) (hm : ∀ j, (st rs j).length ≤ 1000000) (ha : 0 ≤ a) (hal : a < rs.length) (hb0 : 0 ≤ b) (hbl : b < rs.length) (h : 0 ≤ i ∧ i + p ≤ ((st rs a.toNat).length : Int)) (hj : 0 ≤ j ∧ j ≤ ((st (rs.set a.toNat (tr rs a.toNat, (st rs a.toNat).take i.toNat ++ (st rs a.toNat).drop (i.toNat + p.toNat))) b.toNat).length : Int)) : Calls Try.prog 29 #[.agg #[.int .i64 k, .int .i64 a, .int .i64 i, .int .i64 b, .int .i64 j, .int .i64 n], .slice (some ⟨g, 0, none⟩) rs.length cap, .int .i64 p] w fun e w' => ∃ svs', e = .returned (.bool (chS rs a b i j p).1) ∧ Below W0.heap.size W0 w' ∧ RT w' W0.heap.size g cap (chS rs a b i j p).2 svs' := by
  unfold chS
  rw [if_pos h, if_pos hj]
  obtain ⟨j, rfl⟩ := Int.eq_ofNat_of_zero_le hj.1
  obtain ⟨i, rfl⟩ := Int.eq_ofNat_of_zero_le h.1
  obtain ⟨q, rfl⟩ := Int.eq_ofNat_of_zero_le (show 0 ≤ p by omega)
  obtain ⟨xsa, hxa⟩ : ∃ xs, st rs a.toNat = xs := ⟨_, rfl⟩
  obtain ⟨ba, ca, hva, hbba, hbla⟩ := RT.form hT (by omega) hxa (by rw [← hxa]; omega)
  have HXa := Aside0.mk hxa
  have HVa := Aside0.mk hva
  have HBBa := Aside0.mk hbba
  have HBLa := Aside0.mk hbla
  have HB := Aside0.mk hb
  have HT := Aside0.mk hT
  have HA := Aside0.mk ha
  have HAL := Aside0.mk hal
  clear hb hT
  have HIa := Aside0.mk (show a.toNat < rs.length by omega)
  have HIb := Aside0.mk (show b.toNat < rs.length by omega)
  rw [hxa] at h
  have hma := hm a.toNat
  rw [hxa] at hma
  have HQ := Aside0.mk (show 0 < q by omega)
  have HQ3 := Aside0.mk (show q ≤ 3 by omega)
  have HIQ := Aside0.mk (show i + q ≤ xsa.length by omega)
  obtain ⟨tk, htk⟩ : ∃ tk, tkS xsa i q = tk := ⟨_, rfl⟩
  have HTK := Aside0.mk htk
  have HTKL := Aside0.mk (show tk.length = q by rw [← htk]; exact tkS_len HIQ.out)
  obtain ⟨ys, hys⟩ : ∃ ys, xsa.take i ++ xsa.drop (i + q) = ys := ⟨_, rfl⟩
  have HYS := Aside0.mk hys
  obtain ⟨r1, hr1⟩ : ∃ r1, rs.set a.toNat (tr rs a.toNat, ys) = r1 := ⟨_, rfl⟩
  have HR1 := Aside0.mk hr1
  simp only [Int.toNat_natCast]
  simp only [Int.toNat_natCast] at hj
  (try rw [hxa, hys, hr1] at hj)
  rw [hxa, htk, hys, hr1]
  obtain ⟨xsb, hxb⟩ : ∃ xs, st r1 b.toNat = xs := ⟨_, rfl⟩
  obtain ⟨Ab, cb, hvb⟩ := RT.vl_ r1 svs b.toNat xsb hxb
  have HXb := Aside0.mk hxb
  have HVb := Aside0.mk hvb
  have HJb := Aside0.mk (show b.toNat < r1.length by rw [← hr1, List.length_set]; exact HIb.out)
  have HMB := Aside0.mk (show xsb.length ≤ 1000000 by
    have := hm b.toNat
    by_cases e : b.toNat = a.toNat
    · rw [← hxb, ← hr1, e, st_self HIa.out, ← hys]
      simp
      omega
    · rw [← hxb, ← hr1, st_ne e]
      exact this)
  (try rw [hxb] at hj)
  rw [hxb]
  have HJL := Aside0.mk (show j ≤ xsb.length by omega)
  obtain ⟨y2, hy2⟩ : ∃ ys, xsb.take j ++ tk ++ xsb.drop j = ys := ⟨_, rfl⟩
  have HY2 := Aside0.mk hy2
  rw [hy2]
  have HWS := Aside0.mk (show wrap64 ((xsa.length : Int) - (q : Int)) = (xsa.length : Int) - (q : Int) by have := hm a.toNat; rw [hxa] at this; unfold wrap64; omega)
  have HWI := Aside0.mk (show wrap64 ((i : Int) + (q : Int)) = (i : Int) + (q : Int) by unfold wrap64; omega)
  have hci : (ca = i) = False := eq_false (by have := ownCap (ownAt HT.out HIa.out hxa hva); omega)
  have hjc : ((i : Int) + (q : Int) ≤ (ca : Int)) = True := eq_true (by have := ownCap (ownAt HT.out HIa.out hxa hva); omega)
  have hj0 : (0 ≤ (i : Int) + (q : Int)) = True := eq_true (by omega)
  have hj1 : (i ≤ i + q) = True := eq_true (by omega)
  have hj2 : ((i : Int) ≤ (i : Int) + (q : Int)) = True := eq_true (by omega)
  have p32 : (0 ≤ a) = True := eq_true (by omega)
  have q32 : (a < 0) = False := eq_false (by omega)
  have p33 : (a < (rs.length : Int)) = True := eq_true (by omega)
  have q33 : ((rs.length : Int) ≤ a) = False := eq_false (by omega)
  have p34 : (0 ≤ b) = True := eq_true (by omega)
  have q34 : (b < 0) = False := eq_false (by omega)
  have p35 : (b < (rs.length : Int)) = True := eq_true (by omega)
  have q35 : ((rs.length : Int) ≤ b) = False := eq_false (by omega)
  have p36 : ((i : Int) < 0) = False := eq_false (by omega)
  have q36 : (0 ≤ (i : Int)) = True := eq_true (by omega)
  have p37 : ((xsa.length : Int) - (q : Int) < (i : Int)) = False := eq_false (by omega)
  have q37 : ((i : Int) ≤ (xsa.length : Int) - (q : Int)) = True := eq_true (by omega)
  have p41 : ((j : Int) < 0) = False := eq_false (by omega)
  have q41 : (0 ≤ (j : Int)) = True := eq_true (by omega)
  have p42 : ((xsb.length : Int) < (j : Int)) = False := eq_false (by omega)
  have q42 : ((j : Int) ≤ (xsb.length : Int)) = True := eq_true (by omega)
  clear ha hal hb0 hbl hp1 hp3 h
  clear hm hma hxa hva hbba hbla htk hys hr1 hxb hvb
  clear hj hy2
  have hw1 : wrap64 ((xsa.length : Int) - (q : Int)) = (xsa.length : Int) - (q : Int) := HWS.out
  have hw2 := HWI.out
  have hw3 : IntKind.i64.wrap ((i : Int) + (q : Int)) = (i : Int) + (q : Int) := by rw [i64_w]; exact HWI.out
  go_enter Try.func29, Try.ntmps29
  go_wp2_with (first | ((with_reducible refine gate_dst (N := 3) rfl ?_); refine box_event ?hg (N := 3) ?hd (cs := #[.int .i64 k, .int .i64 a, .int .i64 i, .int .i64 b, .int .i64 j, .int .i64 n]) (t := 29) ?hr ?_; (case hd => rfl); (case hg => rfl); (case hr => first | (go_simp; done) | (go_simp; rfl)); intro gm hg_ wv hbox hb; have BM := Aside0.mk hbox; have GM := Aside0.mk (Nat.le_of_eq hg_.symm); have GMO := Aside0.mk (show ∀ j, j < rs.length → ∀ k, (vl rs svs j).ownBlock = some k → k < gm from fun j hj k hk => by rw [hg_]; exact RT.own_lt HT.out hj k hk); have NG := Aside0.mk (show g < gm by rw [hg_]; exact RT.lt HT.out); replace HB := Aside0.mk (below_step HB.out hb); replace HT := Aside0.mk (RT.below HT.out hb); clear hb hbox hg_; have hm1 : wv.cell? ⟨gm, 1, none⟩ = some (.int .i64 a) := (blk_cell BM.out 1).trans rfl; have hm2 : wv.cell? ⟨gm, 2, none⟩ = some (.int .i64 i) := (blk_cell BM.out 2).trans rfl; have hs1 := (RT.cell1 HT.out (j := a.toNat) HIa.out).trans (congrArg some HVa.out)) | (go_at_call 28; (with_reducible refine (clone2 _ _ _ tk _ (HTK.out ▸ RT.cut HT.out HIa.out HXa.out HVa.out HQ.out HIQ.out) (by have := HTKL.out; omega) (by have := HTKL.out; have := HQ3.out; omega)).mono ?_); rintro e wv ⟨v0, rfl, hR, hb⟩; clear hm1 hm2 hs1; obtain ⟨vb, vc, cv, rfl, hvb, hblk, hcv⟩ := blk_of_RI hR (by have := HTKL.out; have := HQ.out; omega); have HVB := Aside0.mk hblk; have HCV := Aside0.mk hcv; have NVG := Aside0.mk (Nat.lt_of_lt_of_le (RT.lt HT.out) hvb); have NVM := Aside0.mk (Nat.lt_of_lt_of_le (blk_lt BM.out) hvb); have LTV := Aside0.mk (fun j hj k hk => Nat.lt_of_lt_of_le (RT.own_lt HT.out (j := j) hj k hk) hvb); replace BM := Aside0.mk (blk_below BM.out hb); replace HB := Aside0.mk (below_step HB.out hb); replace HT := Aside0.mk (RT.below HT.out hb); clear hb hR hvb hblk hcv))
  refine start_ (n := 14) (S := fun w' => w'.cell? ⟨gm, 1, none⟩ = some (.int .i64 a) ∧ w'.cell? ⟨gm, 2, none⟩ = some (.int .i64 (i : Int))) (ds := [13]) #[false, false, false, false, false, false, false, false, false, false, false, false, false, false] (by kernel_rfl) rfl rfl ⟨((blk_cell BM.out 1).trans rfl), ((blk_cell BM.out 2).trans rfl)⟩ (fun hHeld => ?_)
  replace BM := Aside0.mk (show wv.drew.heap[gm]? = _ from BM.out)
  replace HVB := Aside0.mk (show wv.drew.heap[vb]? = _ from HVB.out)
  replace HT := Aside0.mk (RT.drew HT.out)
  replace HB := Aside0.mk (HB.out.drew)
  generalize wv.drew = wv at BM HVB HT HB hHeld ⊢
  refine pure_ (i := 0) (N := some 37) (v := ?_) (a' := ?_) #[true, false, false, false, false, false, false, false, false, false, false, false, false, false] rfl rfl (by kernel_rfl) (fun _ _ _ h => h) (Or.inl ⟨by rfl, ?_⟩) ?_ ?_
  rotate_left
  · intro w'
    go_simp
    with_reducible rfl
  rotate_left
  · simp only [Act.put, List.setIfInBounds_toArray, List.set_cons_zero, List.set_cons_succ, i64_w, i32_w]
    rfl
  refine pure_ (i := 1) (N := some 38) (v := ?_) (a' := ?_) #[true, true, false, false, false, false, false, false, false, false, false, false, false, false] rfl rfl (by kernel_rfl) (fun _ _ _ h => h) (Or.inl ⟨by rfl, ?_⟩) ?_ ?_
  rotate_left
  · intro w'
    go_simp
    with_reducible rfl
  rotate_left
  · simp only [Act.put, List.setIfInBounds_toArray, List.set_cons_zero, List.set_cons_succ, i64_w, i32_w]
    rfl
  refine pure_ (i := 3) (N := some 40) (v := ?_) (a' := ?_) #[true, true, false, true, false, false, false, false, false, false, false, false, false, false] rfl rfl (by kernel_rfl) (fun _ _ _ h => h) (Or.inl ⟨by rfl, ?_⟩) ?_ ?_
  rotate_left
  · intro w'
    go_simp
    with_reducible rfl
  rotate_left
  · simp only [Act.put, List.setIfInBounds_toArray, List.set_cons_zero, List.set_cons_succ, i64_w, i32_w]
    rfl
  refine pure_ (i := 4) (N := some 41) (v := ?_) (a' := ?_) #[true, true, false, true, true, false, false, false, false, false, false, false, false, false] rfl rfl (by kernel_rfl) (fun _ _ _ h => h) (Or.inl ⟨by rfl, ?_⟩) ?_ ?_
  rotate_left
  · intro w'
    go_simp
    with_reducible rfl
  rotate_left
  · simp only [Act.put, List.setIfInBounds_toArray, List.set_cons_zero, List.set_cons_succ, i64_w, i32_w]
    rfl
  refine pure_ (i := 6) (N := some 43) (v := ?_) (a' := ?_) #[true, true, false, true, true, false, true, false, false, false, false, false, false, false] rfl rfl (by kernel_rfl) (fun _ _ _ h => h) (Or.inl ⟨by rfl, ?_⟩) ?_ ?_
  rotate_left
  · intro w'
    go_simp
    with_reducible rfl
  rotate_left
  · simp only [Act.put, List.setIfInBounds_toArray, List.set_cons_zero, List.set_cons_succ, i64_w, i32_w]
    rfl
  refine pure_ (i := 8) (N := some 45) (v := ?_) (a' := ?_) #[true, true, false, true, true, false, true, false, true, false, false, false, false, false] rfl rfl (by kernel_rfl) (fun _ _ _ h => h) (Or.inl ⟨by rfl, ?_⟩) ?_ ?_
  rotate_left
  · intro w'
    go_simp
    with_reducible rfl
  rotate_left
  · simp only [Act.put, List.setIfInBounds_toArray, List.set_cons_zero, List.set_cons_succ, i64_w, i32_w]
    rfl
  refine take_ (i := 2) (N := some 39) (v := ?_) (a' := ?_) #[true, true, true, true, true, false, true, false, true, false, false, false, false, false] rfl rfl (by kernel_rfl) (fun _ _ _ h => h) (Or.inl ⟨by rfl, ?_⟩) hHeld ?_ ?_
  rotate_left
  · rintro w' ⟨s0, s1⟩
    go_simp
    with_reducible rfl
  rotate_left
  · simp only [Act.put, List.setIfInBounds_toArray, List.set_cons_zero, List.set_cons_succ, i64_w, i32_w]
    rfl
  refine take_ (i := 5) (N := some 42) (v := ?_) (a' := ?_) #[true, true, true, true, true, true, true, false, true, false, false, false, false, false] rfl rfl (by kernel_rfl) (fun _ _ _ h => h) (Or.inl ⟨by rfl, ?_⟩) hHeld ?_ ?_
  rotate_left
  · rintro w' ⟨s0, s1⟩
    go_simp
    with_reducible rfl
  rotate_left
  · simp only [Act.put, List.setIfInBounds_toArray, List.set_cons_zero, List.set_cons_succ, i64_w, i32_w]
    rfl
  refine take_ (i := 7) (N := some 44) (v := ?_) (a' := ?_) #[true, true, true, true, true, true, true, true, true, false, false, false, false, false] rfl rfl (by kernel_rfl) (fun _ _ _ h => h) (Or.inl ⟨by rfl, ?_⟩) hHeld ?_ ?_
  rotate_left
  · rintro w' ⟨s0, s1⟩
    go_simp
    with_reducible rfl
  rotate_left
  · simp only [Act.put, List.setIfInBounds_toArray, List.set_cons_zero, List.set_cons_succ, i64_w, i32_w]
    rfl
  refine pure_ (i := 9) (N := some 46) (v := ?_) (a' := ?_) #[true, true, true, true, true, true, true, true, true, true, false, false, false, false] rfl rfl (by kernel_rfl) (fun _ _ _ h => h) (Or.inl ⟨by rfl, ?_⟩) ?_ ?_
  rotate_left
  · intro w'
    go_simp
    with_reducible rfl
  rotate_left
  · simp only [Act.put, List.setIfInBounds_toArray, List.set_cons_zero, List.set_cons_succ, i64_w, i32_w]
    rfl
  refine one_ (i := 10) (N := some 47) #[true, true, true, true, true, true, true, true, true, true, true, false, false, false] rfl rfl (by kernel_rfl) (by decide) (fun K hK => ?_)
  refine goes_ Try.func39 (by kernel_rfl) rfl #[.slice (some ⟨ba, 0, none⟩) xsa.length ca, .int .i64 (i : Int), .int .i64 ((i : Int) + (q : Int))] (by rfl) rfl rfl (by first | rfl | (simp only [List.map_toArray, List.map_cons, List.map_nil]; rfl)) ?_
  with_reducible refine (del2 W0.heap.size xsa i q _ _ _ _ (ownAt HT.out HIa.out HXa.out HVa.out) (by omega) HIQ.out ys HYS.out).mono ?_
  rintro e wv ⟨rfl, ho, hg⟩
  have HG := Aside0.mk hg
  have HO := Aside0.mk ho
  have NBA := Aside0.mk (LTV.out a.toNat HIa.out ba (by rw [HVa.out]; rfl))
  replace BM := Aside0.mk (blk_grown BM.out hg (fun e => by injection e with e; have e2 : gm = ba := e; have := HBLa.out; have := GM.out; omega))
  replace HVB := Aside0.mk (blk_grown HVB.out hg (fun e => by injection e with e; have e2 : vb = ba := e; have := NBA.out; omega))
  replace HB := Aside0.mk (HB.out.grown hg (below_size HB.out) (fun z hz => by injection hz with hz; exact hz ▸ HBBa.out))
  obtain ⟨hc1, hfz⟩ := RT.cell1_grown HT.out HIa.out HIa.out (by rw [HVa.out]; exact hg)
  rw [HVa.out] at hc1
  clear hg ho
  refine ⟨_, rfl, ?_⟩
  refine hK.out _ _ ⟨((blk_cell BM.out 1).trans rfl), ((blk_cell BM.out 2).trans rfl)⟩ (fun hHeld => ?_)
  clear hK K
  refine norm_ (a' := ?_) ?_ ?_
  rotate_left
  · show Act.put _ (some 47) _ = _
    simp only [Act.put, List.setIfInBounds_toArray, List.set_cons_zero, List.set_cons_succ, i64_w, i32_w]
    rfl
  refine pure_ (i := 11) (N := some 48) (v := ?_) (a' := ?_) #[true, true, true, true, true, true, true, true, true, true, true, true, false, false] rfl rfl (by kernel_rfl) (fun _ _ _ h => h) (Or.inl ⟨by rfl, ?_⟩) ?_ ?_
  rotate_left
  · intro w'
    go_simp
    with_reducible rfl
  rotate_left
  · simp only [Act.put, List.setIfInBounds_toArray, List.set_cons_zero, List.set_cons_succ, i64_w, i32_w]
    rfl
  refine pure_ (i := 12) (N := some 49) (v := ?_) (a' := ?_) #[true, true, true, true, true, true, true, true, true, true, true, true, true, false] rfl rfl (by kernel_rfl) (fun _ _ _ h => h) (Or.inl ⟨by rfl, ?_⟩) ?_ ?_
  rotate_left
  · intro w'
    go_simp
    with_reducible rfl
  rotate_left
  · simp only [Act.put, List.setIfInBounds_toArray, List.set_cons_zero, List.set_cons_succ, i64_w, i32_w]
    rfl
  refine last_ (i := 13) (N := none) #[true, true, true, true, true, true, true, true, true, true, true, true, true, true] rfl rfl (by kernel_rfl) (by decide) (fun K hK => ?_)
  refine skip_ (w1 := ?_) (by rfl) rfl ?_ ?_
  rotate_left
  · go_simp
    rfl
  clear hc1 hfz
  obtain ⟨hT2, hG2⟩ := RT.put_same HT.out HIa.out HVa.out HG.out HO.out
  rw [HR1.out] at hT2
  replace HT := Aside0.mk hT2
  replace BM := Aside0.mk (blk_grown BM.out hG2 (fun e => by injection e with e; have := NG.out; omega))
  replace HVB := Aside0.mk (blk_grown HVB.out hG2 (fun e => by injection e with e; have := NVG.out; omega))
  replace HB := Aside0.mk (HB.out.grown hG2 (below_size HB.out) (fun z hz => by injection hz with hz; exact hz ▸ HT.out.2.1))
  clear hT2 hG2 HG HO
  generalize wv.setCell ⟨g, a.toNat * 2 + 1, none⟩ (.slice (some ⟨ba, 0, none⟩) ys.length ca) = wv at HT BM HVB HB ⊢
  refine hK.out _ _ ?_
  clear hK K
  refine done_ (by kernel_rfl) ?_
  have hm3 : wv.cell? ⟨gm, 3, none⟩ = some (.int .i64 b) := (blk_cell BM.out 3).trans rfl
  have hm4 : wv.cell? ⟨gm, 4, none⟩ = some (.int .i64 (j : Int)) := (blk_cell BM.out 4).trans rfl
  have hs3 : wv.cell? ⟨g, b.toNat * 2 + 1, none⟩ = some (.slice Ab xsb.length cb) := (RT.cell1 HT.out HJb.out).trans (congrArg some HVb.out)
  go_wp2
  refine start_ (n := 11) (S := fun w' => w'.cell? ⟨gm, 3, none⟩ = some (.int .i64 b) ∧ w'.cell? ⟨gm, 4, none⟩ = some (.int .i64 (j : Int))) (ds := [10]) #[false, false, false, false, false, false, false, false, false, false, false] (by kernel_rfl) rfl rfl ⟨((blk_cell BM.out 3).trans rfl), ((blk_cell BM.out 4).trans rfl)⟩ (fun hHeld => ?_)
  replace BM := Aside0.mk (show wv.drew.heap[gm]? = _ from BM.out)
  replace HVB := Aside0.mk (show wv.drew.heap[vb]? = _ from HVB.out)
  replace HT := Aside0.mk (RT.drew HT.out)
  replace HB := Aside0.mk (HB.out.drew)
  generalize wv.drew = wv at BM HVB HT HB hHeld ⊢
  refine pure_ (i := 0) (N := some 66) (v := ?_) (a' := ?_) #[true, false, false, false, false, false, false, false, false, false, false] rfl rfl (by kernel_rfl) (fun _ _ _ h => h) (Or.inl ⟨by rfl, ?_⟩) ?_ ?_
  rotate_left
  · intro w'
    go_simp
    with_reducible rfl
  rotate_left
  · simp only [Act.put, List.setIfInBounds_toArray, List.set_cons_zero, List.set_cons_succ, i64_w, i32_w]
    rfl
  refine pure_ (i := 1) (N := some 67) (v := ?_) (a' := ?_) #[true, true, false, false, false, false, false, false, false, false, false] rfl rfl (by kernel_rfl) (fun _ _ _ h => h) (Or.inl ⟨by rfl, ?_⟩) ?_ ?_
  rotate_left
  · intro w'
    go_simp
    with_reducible rfl
  rotate_left
  · simp only [Act.put, List.setIfInBounds_toArray, List.set_cons_zero, List.set_cons_succ, i64_w, i32_w]
    rfl
  refine pure_ (i := 3) (N := some 69) (v := ?_) (a' := ?_) #[true, true, false, true, false, false, false, false, false, false, false] rfl rfl (by kernel_rfl) (fun _ _ _ h => h) (Or.inl ⟨by rfl, ?_⟩) ?_ ?_
  rotate_left
  · intro w'
    go_simp
    with_reducible rfl
  rotate_left
  · simp only [Act.put, List.setIfInBounds_toArray, List.set_cons_zero, List.set_cons_succ, i64_w, i32_w]
    rfl
  refine pure_ (i := 4) (N := some 70) (v := ?_) (a' := ?_) #[true, true, false, true, true, false, false, false, false, false, false] rfl rfl (by kernel_rfl) (fun _ _ _ h => h) (Or.inl ⟨by rfl, ?_⟩) ?_ ?_
  rotate_left
  · intro w'
    go_simp
    with_reducible rfl
  rotate_left
  · simp only [Act.put, List.setIfInBounds_toArray, List.set_cons_zero, List.set_cons_succ, i64_w, i32_w]
    rfl
  refine pure_ (i := 6) (N := some 72) (v := ?_) (a' := ?_) #[true, true, false, true, true, false, true, false, false, false, false] rfl rfl (by kernel_rfl) (fun _ _ _ h => h) (Or.inl ⟨by rfl, ?_⟩) ?_ ?_
  rotate_left
  · intro w'
    go_simp
    with_reducible rfl
  rotate_left
  · simp only [Act.put, List.setIfInBounds_toArray, List.set_cons_zero, List.set_cons_succ, i64_w, i32_w]
    rfl
  refine take_ (i := 2) (N := some 68) (v := ?_) (a' := ?_) #[true, true, true, true, true, false, true, false, false, false, false] rfl rfl (by kernel_rfl) (fun _ _ _ h => h) (Or.inl ⟨by rfl, ?_⟩) hHeld ?_ ?_
  rotate_left
  · rintro w' ⟨s0, s1⟩
    go_simp
    with_reducible rfl
  rotate_left
  · simp only [Act.put, List.setIfInBounds_toArray, List.set_cons_zero, List.set_cons_succ, i64_w, i32_w]
    rfl
  refine take_ (i := 5) (N := some 71) (v := ?_) (a' := ?_) #[true, true, true, true, true, true, true, false, false, false, false] rfl rfl (by kernel_rfl) (fun _ _ _ h => h) (Or.inl ⟨by rfl, ?_⟩) hHeld ?_ ?_
  rotate_left
  · rintro w' ⟨s0, s1⟩
    go_simp
    with_reducible rfl
  rotate_left
  · simp only [Act.put, List.setIfInBounds_toArray, List.set_cons_zero, List.set_cons_succ, i64_w, i32_w]
    rfl
  refine one_ (i := 7) (N := some 73) #[true, true, true, true, true, true, true, true, false, false, false] rfl rfl (by kernel_rfl) (by decide) (fun K hK => ?_)
  refine goes_ Try.func40 (by kernel_rfl) rfl #[.slice Ab xsb.length cb, .int .i64 (j : Int), .slice (some ⟨vb, 0, none⟩) tk.length vc] (by rfl) rfl rfl (by first | rfl | (simp only [List.map_toArray, List.map_cons, List.map_nil]; rfl)) ?_
  with_reducible refine (ins2 W0.heap.size xsb tk j _ vb vc cv _ (ownAt HT.out HJb.out HXb.out HVb.out) HJL.out (by have := HTKL.out; have := HQ.out; omega) (by have := HTKL.out; have := HQ3.out; have := HMB.out; omega) HVB.out HCV.out (fun e => by have := LTV.out b.toNat HIb.out vb (by rw [ob_eq rs r1 svs b.toNat, HVb.out]; exact e); omega) (below_size HB.out) y2 HY2.out).mono ?_
  rintro e wv ⟨v1, rfl, ho, hg, hat⟩
  obtain ⟨A1, c1, e1⟩ := Kd.R_slice (RI_of ho rfl)
  subst e1
  have HG := Aside0.mk hg
  have HO := Aside0.mk ho
  have HAT := Aside0.mk hat
  have HGR := Aside0.mk (show ∀ z, (Value.slice Ab xsb.length cb).ownBlock = some z → W0.heap.size ≤ z from by rw [← HVb.out]; exact Kd.R_base (RT.stops HT.out HJb.out))
  replace BM := Aside0.mk (blk_grown BM.out hg (fun e => by have := LTV.out b.toNat HIb.out gm (by rw [ob_eq rs r1 svs b.toNat, HVb.out]; exact e.symm); have := GMO.out b.toNat HIb.out gm (by rw [ob_eq rs r1 svs b.toNat, HVb.out]; exact e.symm); omega))
  replace HB := Aside0.mk (HB.out.grown hg (below_size HB.out) HGR.out)
  obtain ⟨hc1, hfz⟩ := RT.cell1_grown HT.out HJb.out HJb.out (by rw [HVb.out]; exact hg)
  rw [HVb.out] at hc1
  clear hg ho hat
  refine ⟨_, rfl, ?_⟩
  refine hK.out _ _ ⟨((blk_cell BM.out 3).trans rfl), ((blk_cell BM.out 4).trans rfl)⟩ (fun hHeld => ?_)
  clear hK K
  refine norm_ (a' := ?_) ?_ ?_
  rotate_left
  · show Act.put _ (some 73) _ = _
    simp only [Act.put, List.setIfInBounds_toArray, List.set_cons_zero, List.set_cons_succ, i64_w, i32_w]
    rfl
  refine pure_ (i := 8) (N := some 74) (v := ?_) (a' := ?_) #[true, true, true, true, true, true, true, true, true, false, false] rfl rfl (by kernel_rfl) (fun _ _ _ h => h) (Or.inl ⟨by rfl, ?_⟩) ?_ ?_
  rotate_left
  · intro w'
    go_simp
    with_reducible rfl
  rotate_left
  · simp only [Act.put, List.setIfInBounds_toArray, List.set_cons_zero, List.set_cons_succ, i64_w, i32_w]
    rfl
  refine pure_ (i := 9) (N := some 75) (v := ?_) (a' := ?_) #[true, true, true, true, true, true, true, true, true, true, false] rfl rfl (by kernel_rfl) (fun _ _ _ h => h) (Or.inl ⟨by rfl, ?_⟩) ?_ ?_
  rotate_left
  · intro w'
    go_simp
    with_reducible rfl
  rotate_left
  · simp only [Act.put, List.setIfInBounds_toArray, List.set_cons_zero, List.set_cons_succ, i64_w, i32_w]
    rfl
  refine last_ (i := 10) (N := none) #[true, true, true, true, true, true, true, true, true, true, true] rfl rfl (by kernel_rfl) (by decide) (fun K hK => ?_)
  refine skip_ (w1 := ?_) (by rfl) rfl ?_ ?_
  rotate_left
  · go_simp
    rfl
  clear hc1 hfz
  obtain ⟨svs2, hT2, hG2⟩ := RT.put_new HT.out HJb.out HVb.out HG.out HO.out HAT.out
  replace HB := Aside0.mk (HB.out.grown hG2 (below_size HB.out) (fun z hz => by injection hz with hz; exact hz ▸ HT.out.2.1))
  replace HT := Aside0.mk hT2
  clear hT2 hG2 HG HO HAT BM HVB HGR
  generalize wv.setCell ⟨g, b.toNat * 2 + 1, none⟩ (.slice A1 y2.length c1) = wv at HT HB ⊢
  refine hK.out _ _ ?_
  clear hK K
  refine done_ (by kernel_rfl) ?_
  go_wp2
  first | go_ret | go_ret2
  exact ⟨svs2, rfl, HB.out, HT.out⟩
end Go.Proofs.Ytcofibbgdnbejaa.Mv6
