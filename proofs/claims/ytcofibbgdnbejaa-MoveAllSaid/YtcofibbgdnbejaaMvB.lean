/- Routes as the printed walks tell them (Kd.S), and as the appliers' contracts do (RT): each is the other. -/
import Derived.Test.YtcofibbgdnbejaaMv8
namespace Go.Proofs.Ytcofibbgdnbejaa.Mv9
open Go.RowKit Go.Proofs.YtcofibbgdnbejaaW.PrintWords Go.Proofs.YtcofibbgdnbejaaW.PrintLast Go.Proofs.YtcofibbgdnbejaaW.PrintMore Go.Proofs.Ytcofibbgdnbejaa.Ints Go.Proofs.Ytcofibbgdnbejaa.Mv1 Go.Proofs.Ytcofibbgdnbejaa.Mv2
set_option linter.unusedVariables false
set_option linter.unusedSimpArgs false
section
variable {α : Type} {t : α → Rt} {w : World} {base : Nat} {ok : Nat → Prop}
theorem dd_open {x : α} {cs : List Value} (h : (Kd.iso kdp t).M w base ok x cs) : ∃ v1, cs = [.int .i64 (t x).1, v1] ∧ (Kd.int .i64).R 3 w base ok v1 (t x).2 := by
  obtain ⟨_, _, rfl, rfl, ⟨v1, rfl, g1⟩⟩ := h
  exact ⟨v1, rfl, g1⟩
theorem dd_mk {x : α} {v1 : Value} (g1 : (Kd.int .i64).R 3 w base ok v1 (t x).2) : (Kd.iso kdp t).M w base ok x [.int .i64 (t x).1, v1] := ⟨[.int .i64 (t x).1], [v1], rfl, rfl, ⟨v1, rfl, g1⟩⟩
def svs_of (inner : List Value) (n : Nat) : List (Option Addr × Nat) := (List.range n).map fun j => match inner.getD (j * 2 + 1) undef with
  | Value.slice A _ c => (A, c)
  | _ => (none, 0)
theorem RT_of_S {g cap : Nat} {xs : List α} (h : Kd.S (Kd.iso kdp t) 35 w base ok (.slice (some ⟨g, 0, none⟩) xs.length cap) xs) : ∃ svs, RT w base g cap (xs.map t) svs := by
  obtain ⟨f, hown, inner, ho, hrep⟩ := h
  have ho' := ho
  rcases ho.2 with ⟨h1, _⟩ | ⟨g', cap', cur, hv, hbg, hg, hnc, hcm, hcs, hct⟩
  · cases h1
  simp only [Value.slice.injEq, Option.some.injEq, Addr.mk.injEq, and_true, true_and] at hv
  obtain ⟨_, rfl, rfl⟩ : xs.length = xs.length ∧ g = g' ∧ cap = cap' := ⟨rfl, hv.1, hv.2.2⟩
  rw [List.length_zipIdx] at hnc hct
  change cur.size = cap * 2 at hcs
  change cur.toList.take (xs.length * 2) = inner at hct
  have hel : ∀ j (hj : j < xs.length), ∃ A c, inner[j * 2]? = some (.int .i64 (t xs[j]).1) ∧ inner[j * 2 + 1]? = some (.slice A (t xs[j]).2.length c) ∧ (Kd.int .i64).R 3 w base (fun k => (ok k ∧ some k ≠ some g) ∧ f k = j) (.slice A (t xs[j]).2.length c) (t xs[j]).2 := by
    intro j hj
    have h1 := hrep.2 j (xs[j], j) (Kd.zip_at (List.getElem?_eq_getElem hj))
    obtain ⟨v1, hc, hR⟩ := dd_open (t := t) (x := xs[j]) h1
    change (inner.drop (j * 2)).take 2 = _ at hc
    obtain ⟨A, c, rfl⟩ := Kd.R_slice hR
    refine ⟨A, c, ?_, ?_, hR⟩
    · have := congrArg (fun z => z[0]?) hc
      simpa [List.getElem?_take, List.getElem?_drop] using this
    · have := congrArg (fun z => z[1]?) hc
      simpa [List.getElem?_take, List.getElem?_drop] using this
  refine ⟨svs_of inner xs.length, ?_⟩
  have hsv : ∀ j (hj : j < xs.length), vl (xs.map t) (svs_of inner xs.length) j = inner.getD (j * 2 + 1) undef ∧ st (xs.map t) j = (t xs[j]).2 ∧ tr (xs.map t) j = (t xs[j]).1 := by
    intro j hj
    obtain ⟨A, c, _, h2, _⟩ := hel j hj
    have e1 : st (xs.map t) j = (t xs[j]).2 := by unfold st; simp [hj]
    have e2 : tr (xs.map t) j = (t xs[j]).1 := by unfold tr; simp [hj]
    refine ⟨?_, e1, e2⟩
    unfold vl
    rw [e1]
    have e3 : (svs_of inner xs.length).getD j (none, 0) = (A, c) := by
      have e4 : inner.getD (j * 2 + 1) undef = Value.slice A (t xs[j]).2.length c := by simp [List.getD, h2]
      unfold svs_of
      rw [List.getD, List.getElem?_map, List.getElem?_range hj]
      simp only [Option.map_some, Option.getD_some, e4]
    rw [e3]
    simp [List.getD, h2]
  have hcur : ∀ i, i < xs.length * 2 → cur[i]? = inner[i]? := by
    intro i hi
    rw [← hct, List.getElem?_take, if_pos hi, Array.getElem?_toList]
  refine ⟨by simp [svs_of], hbg, ⟨cur, hg, by simpa using hnc, hcm, hcs, fun j hj => ?_⟩, fun j hj => ?_, fun i j hi hj hij => ?_⟩
  · rw [List.length_map] at hj
    obtain ⟨A, c, h1, h2, _⟩ := hel j hj
    obtain ⟨k1, k2, k3⟩ := hsv j hj
    rw [hcur _ (by omega), hcur _ (by omega), k1, k3, h1]
    exact ⟨rfl, by simp [List.getD, h2]⟩
  · rw [List.length_map] at hj
    obtain ⟨A, c, h1, h2, h3⟩ := hel j hj
    obtain ⟨k1, k2, k3⟩ := hsv j hj
    rw [k1, k2]
    have : inner.getD (j * 2 + 1) undef = .slice A (t xs[j]).2.length c := by simp [List.getD, h2]
    rw [this]
    exact Kd.R_mono h3 (fun _ _ => trivial)
  · rw [List.length_map] at hi hj
    obtain ⟨A, c, _, h2, h3⟩ := hel i hi
    obtain ⟨A', c', _, h2', h3'⟩ := hel j hj
    rw [(hsv i hi).1, (hsv j hj).1, show inner.getD (i * 2 + 1) undef = .slice A (t xs[i]).2.length c by simp [List.getD, h2], show inner.getD (j * 2 + 1) undef = .slice A' (t xs[j]).2.length c' by simp [List.getD, h2']]
    intro k hk hk2
    have e1 := (h3.1 k hk).2
    have e2 := (h3'.1 k hk2).2
    omega
theorem S_of_RT {g cap : Nat} {xs : List α} {svs : List (Option Addr × Nat)} (h : RT w base g cap (xs.map t) svs) : Kd.S (Kd.iso kdp t) 35 w base (fun _ => True) (.slice (some ⟨g, 0, none⟩) xs.length cap) xs := by
  have hne := fun j (hj : j < xs.length) => RT.own_ne h (j := j) (by simpa using hj)
  obtain ⟨h1, h2, ⟨cur, hg, h3, h4, h5, h6⟩, h7, h8⟩ := h
  simp only [List.length_map] at h1 h3 h6 h7 h8
  have hcl : cur.toList.length = cur.size := Array.length_toList
  have hst : ∀ j (hj : j < xs.length), st (xs.map t) j = (t xs[j]).2 ∧ tr (xs.map t) j = (t xs[j]).1 := by
    intro j hj
    exact ⟨by unfold st; simp [hj], by unfold tr; simp [hj]⟩
  obtain ⟨f, hr⟩ := Kd.reps_tag (d := Kd.iso kdp t) (w := w) (base := base) (ok := fun k => True ∧ some k ≠ some g) (xs := xs) (inner := cur.toList.take (xs.length * 2)) (fun j k => (vl (xs.map t) svs j).ownBlock = some k ∧ j < xs.length)
    (fun i j k hi hj => by
      rcases Nat.decEq i j with e | e
      · exact absurd hj.1 (h8 i j hi.2 hj.2 e k hi.1)
      · exact e)
    (fun j k hk => ⟨trivial, fun e => hne j hk.2 (by rw [hk.1]; exact e)⟩)
    (by
      show _ = xs.length * 2
      rw [List.length_take]
      omega)
    (fun j x hx => by
      obtain ⟨hj, rfl⟩ := List.getElem?_eq_some_iff.1 hx
      obtain ⟨k1, k2⟩ := h6 j hj
      have e : ((cur.toList.take (xs.length * 2)).drop (j * 2)).take 2 = [.int .i64 (t xs[j]).1, vl (xs.map t) svs j] := by
        rw [(hst j hj).2] at k1
        apply List.ext_getElem?
        intro q
        rw [List.getElem?_take, List.getElem?_drop, List.getElem?_take]
        match q with
        | 0 =>
          rw [if_pos (by omega), if_pos (by omega), Array.getElem?_toList, Nat.add_zero, k1]
          rfl
        | 1 =>
          rw [if_pos (by omega), if_pos (by omega), Array.getElem?_toList, k2]
          rfl
        | q + 2 =>
          rw [if_neg (by omega)]
          rfl
      show (Kd.iso kdp t).M _ _ _ _ (((cur.toList.take (xs.length * 2)).drop (j * 2)).take 2)
      rw [e]
      have := own_tight (h7 j hj)
      rw [(hst j hj).1] at this
      exact dd_mk (Kd.R_mono this (fun k hk => ⟨hk.symm, hj⟩)))
  refine ⟨f, fun _ _ => trivial, _, ?_, hr⟩
  rw [List.length_zipIdx]
  exact ⟨by show _ = xs.length * 2; rw [List.length_take]; omega, .inr ⟨g, cap, cur, rfl, h2, hg, h3, h4, h5, rfl⟩⟩
end
end Go.Proofs.Ytcofibbgdnbejaa.Mv9
namespace Go.Proofs.Ytcofibbgdnbejaa.Mv10
open Go.RowKit Go.Proofs.YtcofibbgdnbejaaW.PrintWords Go.Proofs.YtcofibbgdnbejaaW.PrintLast Go.Proofs.YtcofibbgdnbejaaW.PrintMore Go.Proofs.Ytcofibbgdnbejaa.Ints Go.Proofs.Ytcofibbgdnbejaa.Mv1 Go.Proofs.Ytcofibbgdnbejaa.Mv2
attribute [local go_sem] max2_int min2_int max_two min_two max_three min_three max_four min_four
set_option linter.unusedVariables false
set_option linter.unusedSimpArgs false
theorem drop_eq {x y : List Int} {i : Nat} (hx : i < x.length) (hy : i < y.length) : (x.drop i = y.drop i) ↔ (rd x (i : Int) = rd y (i : Int) ∧ x.drop (i + 1) = y.drop (i + 1)) := by
  rw [List.drop_eq_getElem_cons hx, List.drop_eq_getElem_cons hy, List.cons.injEq]
  simp [rd, hx, hy]
set_option maxHeartbeats 8000000 in
set_option maxRecDepth 100000 in
theorem eq_ne (A : Option Addr) (c : Nat) (x : List Int) (B : Option Addr) (d : Nat) (y : List Int) (w : World) (hl : ¬ x.length = y.length) :
    Calls Try.prog 26 #[.slice A x.length c, .slice B y.length d] w fun e w' => e = .returned (.bool (decide (x = y))) ∧ Below w.heap.size w w' := by
  have e : decide (x = y) = false := decide_eq_false (fun e => hl (by rw [e]))
  rw [e]
  have p1 : ((x.length : Int) = (y.length : Int)) = False := eq_false (by omega)
  have p2 : ((x.length : Int) == (y.length : Int)) = false := beq_eq_false_iff_ne.mpr (by omega)
  have p3 : ((x.length : Int) != (y.length : Int)) = true := by rw [bne, p2]; rfl
  clear hl e
  go_enter Try.func26, Try.ntmps26
  go_wp2
  first | go_ret | go_ret2
  exact ⟨rfl, Below.refl _ _⟩
set_option maxHeartbeats 8000000 in
set_option maxRecDepth 100000 in
theorem eq_len (A : Option Addr) (c : Nat) (x : List Int) (B : Option Addr) (d : Nat) (y : List Int) (w : World) (hx : CI w A x) (hy : CI w B y) (hl : x.length = y.length) :
    Calls Try.prog 26 #[.slice A x.length c, .slice B y.length d] w fun e w' => e = .returned (.bool (decide (x = y))) ∧ Below w.heap.size w w' := by
  have HX := Aside0.mk hx
  have HY := Aside0.mk hy
  have HL := Aside0.mk hl
  obtain ⟨n, hn⟩ : ∃ n, n = x.length := ⟨_, rfl⟩
  have HN := Aside0.mk hn
  have HM := Aside0.mk (show n ≤ 9223372036854775807 by rw [hn]; exact Kd.C_max hx)
  have HB := Aside0.mk (Below.refl w.heap.size w)
  rw [← hl, ← hn]
  obtain ⟨r, hr⟩ : ∃ r, decide (x = y) = r := ⟨_, rfl⟩
  have HR := Aside0.mk hr
  rw [hr]
  clear hr
  have p2 : ((n : Int) == (n : Int)) = true := beq_self_eq_true _
  have p3 : ((n : Int) != (n : Int)) = false := by rw [bne, p2]; rfl
  clear hx hy hl hn
  go_enter Try.func26, Try.ntmps26
  go_wp2
  go_loopg [5, 13] n (fun kq v5 v13 w' => ∃ i : Nat, v13 = .int .i64 (i : Int) ∧ Aside0 (i ≤ n) ∧ Aside0 (n - i ≤ kq) ∧ Aside0 ((x = y) ↔ x.drop i = y.drop i) ∧ Aside0 (Below w.heap.size w w'))
  case atStart => exact ⟨0, rfl, ⟨Nat.zero_le _⟩, ⟨by omega⟩, ⟨by simp⟩, HB⟩
  case round =>
    clear HB
    obtain ⟨i, rfl, HJ, HG, HE, HB⟩ := hrel
    by_cases c1 : (i : Int) < (n : Int)
    · have HIN := Aside0.mk (show i < n by omega)
      obtain ⟨a1, rfl, h1⟩ := Kd.at_int (Kd.C_below HX.out HB.out) (i : Int) (by omega) (by have := HN.out; omega)
      obtain ⟨a2, rfl, h2⟩ := Kd.at_int (Kd.C_below HY.out HB.out) (i : Int) (by omega) (by have := HN.out; have := HL.out; omega)
      rw [Int.toNat_natCast] at h1 h2
      have hde := drop_eq (x := x) (y := y) (i := i) (by have := HN.out; omega) (by have := HN.out; have := HL.out; omega)
      obtain ⟨u, hu⟩ : ∃ u, rd x (i : Int) = u := ⟨_, rfl⟩
      obtain ⟨v, hv⟩ : ∃ v, rd y (i : Int) = v := ⟨_, rfl⟩
      rw [hu] at h1 hde
      rw [hv] at h2 hde
      have HDE := Aside0.mk hde
      have HW := Aside0.mk (show wrap64 ((i : Int) + 1) = ((i + 1 : Nat) : Int) by have := HM.out; unfold wrap64; omega)
      have p0 : (0 ≤ (i : Int)) = True := eq_true (by omega)
      replace c1 := eq_true c1
      clear hu hv hde
      by_cases huv : u = v
      · have q1 : (u == v) = true := beq_iff_eq.mpr huv
        have q2 : (u != v) = false := by rw [bne, q1]; rfl
        have HU := Aside0.mk huv
        clear huv
        go_wp2
        go_quiet (fail)
        go_wp2
        go_roundg (n - (i + 1))
        case measure => have := HJ.out; have := HG.out; have := HIN.out; omega
        case rel => exact ⟨i + 1, by first | rfl | rw [HW.out], ⟨by have := HIN.out; omega⟩, ⟨by omega⟩, ⟨HE.out.trans (HDE.out.trans ⟨fun h => h.2, fun h => ⟨HU.out, h⟩⟩)⟩, ⟨pw_below_drewN HB.out _⟩⟩
      · have q1 : (u == v) = false := beq_eq_false_iff_ne.mpr huv
        have q2 : (u != v) = true := by rw [bne, q1]; rfl
        have e : false = r := by rw [← HR.out]; exact (decide_eq_false (fun h => huv (HDE.out.1 (HE.out.1 h)).1)).symm
        clear huv
        subst e
        go_wp2
        go_quiet (fail)
        go_wp2
        first | go_ret | go_ret2
        exact ⟨rfl, pw_below_drewN HB.out _⟩
    · obtain rfl : i = n := by have := HJ.out; omega
      replace c1 := eq_false c1
      have e : true = r := by rw [← HR.out]; exact (decide_eq_true (HE.out.2 (by rw [List.drop_of_length_le (by have := HN.out; omega), List.drop_of_length_le (by have := HN.out; have := HL.out; omega)]))).symm
      subst e
      go_wp2
      first | go_ret | go_ret2
      exact ⟨rfl, HB.out⟩
theorem eq_ (A : Option Addr) (c : Nat) (x : List Int) (B : Option Addr) (d : Nat) (y : List Int) (w : World) (hx : CI w A x) (hy : CI w B y) :
    Calls Try.prog 26 #[.slice A x.length c, .slice B y.length d] w fun e w' => e = .returned (.bool (decide (x = y))) ∧ Below w.heap.size w w' := by
  by_cases hl : x.length = y.length
  · exact eq_len A c x B d y w hx hy hl
  · exact eq_ne A c x B d y w hl
end Go.Proofs.Ytcofibbgdnbejaa.Mv10
namespace Go.Proofs.Ytcofibbgdnbejaa.Mv11
open Go.RowKit Go.Proofs.YtcofibbgdnbejaaW.PrintWords Go.Proofs.YtcofibbgdnbejaaW.PrintLast Go.Proofs.YtcofibbgdnbejaaW.PrintMore Go.Proofs.Ytcofibbgdnbejaa.Ints Go.Proofs.Ytcofibbgdnbejaa.Mv1 Go.Proofs.Ytcofibbgdnbejaa.Mv2 Go.Proofs.Ytcofibbgdnbejaa.Mv10
attribute [local go_sem] max2_int min2_int max_two min_two max_three min_three max_four min_four
set_option linter.unusedVariables false
set_option linter.unusedSimpArgs false
theorem C_map {α : Type} {t : α → Rt} {w : World} {A : Option Addr} {n : Nat} {xs : List α} (h : Kd.C (Kd.iso kdp t) w A n xs) : Kd.C kdp w A n (xs.map t) := by
  obtain ⟨h1, h2, h3⟩ := h
  refine ⟨by simpa using h1, h2, fun hp => ?_⟩
  obtain ⟨ad, e, hc⟩ := h3 hp
  refine ⟨ad, e, fun j p hj => ?_⟩
  rw [List.getElem?_map] at hj
  obtain ⟨x, hx, rfl⟩ := Option.map_eq_some_iff.1 hj
  exact hc j x hx
def rr (rs : List Rt) (i : Int) : Rt := rs.getD i.toNat (0, [])
theorem at_R {w : World} {A : Option Addr} {n : Nat} {xs : List Rt} (h : Kd.C kdp w A n xs) (i : Int) (h0 : 0 ≤ i) (h1 : i < n) : ∃ ad A1 c1, A = some ad ∧ w.cell? (ad.add (i.toNat * 2)) = some (.int .i64 (rr xs i).1) ∧ w.cell? ⟨(ad.add (i.toNat * 2)).block, (ad.add (i.toNat * 2)).off + 1, none⟩ = some (.slice A1 (rr xs i).2.length c1) ∧ CI w A1 (rr xs i).2 := by
  obtain ⟨ad, c, e, _, hK, hc0⟩ := Kd.C_get h ((0, []) : Rt) i h0 h1
  have hc : ∀ j u, c[j]? = some u → w.cell? (ad.add (i.toNat * 2 + j)) = some u := hc0
  obtain ⟨_, _, rfl, rfl, ⟨A1, c1, rfl, l1, g1⟩⟩ := hK
  exact ⟨ad, A1, c1, e, hc 0 _ rfl, by rw [← add_field _ _ 1 (by omega)]; exact hc 1 _ rfl, g1⟩
set_option maxHeartbeats 8000000 in
set_option maxRecDepth 100000 in
theorem cl_n (a b : Int) (A : Option Addr) (c : Nat) (x : List Int) (B : Option Addr) (d : Nat) (y : List Int) (w : World) (hx : CI w A x) (hy : CI w B y) (h : ¬ a = b) : Calls Try.prog 25 #[.agg #[.int .i64 a, .slice A x.length c], .agg #[.int .i64 b, .slice B y.length d]] w fun e w' => e = .returned (.bool (decide (a = b ∧ x = y))) ∧ Below w.heap.size w w' := by
  have e : decide (a = b ∧ x = y) = false := decide_eq_false (fun e => h e.1)
  rw [e]
  have q1 : (a == b) = false := beq_eq_false_iff_ne.mpr h
  replace h := eq_false h
  clear e hx hy
  go_enter Try.func25, Try.ntmps25
  go_wp2_with (first | ((with_reducible refine gate_dst (N := 2) rfl ?_); refine box_event ?hg (N := 2) ?hd (cs := #[.int .i64 a, .slice A x.length c]) (t := 35) ?hr ?_; (case hd => rfl); (case hg => rfl); (case hr => first | (go_simp; done) | (go_simp; rfl)); intro gp hg_ wv hbox hb; have HB := Aside0.mk hb; have Bp := Aside0.mk hbox; clear hbox hg_ hb) | ((with_reducible refine gate_dst (N := 3) rfl ?_); refine box_event ?hg (N := 3) ?hd (cs := #[.int .i64 b, .slice B y.length d]) (t := 35) ?hr ?_; (case hd => rfl); (case hg => rfl); (case hr => first | (go_simp; done) | (go_simp; rfl)); intro gq hg_ wv hbox hb; replace Bp := Aside0.mk (blk_below Bp.out hb); replace HB := Aside0.mk (below_step HB.out hb); have Bq := Aside0.mk hbox; clear hbox hg_ hb; have h1 : wv.cell? ⟨gp, 0, none⟩ = some (.int .i64 a) := (blk_cell Bp.out 0).trans rfl; have h2 : wv.cell? ⟨gp, 1, none⟩ = some (.slice A x.length c) := (blk_cell Bp.out 1).trans rfl; have h3 : wv.cell? ⟨gq, 0, none⟩ = some (.int .i64 b) := (blk_cell Bq.out 0).trans rfl; have h4 : wv.cell? ⟨gq, 1, none⟩ = some (.slice B y.length d) := (blk_cell Bq.out 1).trans rfl))
  first | go_ret | go_ret2
  exact ⟨rfl, HB.out⟩
set_option maxHeartbeats 8000000 in
set_option maxRecDepth 100000 in
theorem cl_y (a b : Int) (A : Option Addr) (c : Nat) (x : List Int) (B : Option Addr) (d : Nat) (y : List Int) (w : World) (hx : CI w A x) (hy : CI w B y) (h : a = b) : Calls Try.prog 25 #[.agg #[.int .i64 a, .slice A x.length c], .agg #[.int .i64 b, .slice B y.length d]] w fun e w' => e = .returned (.bool (decide (a = b ∧ x = y))) ∧ Below w.heap.size w w' := by
  obtain ⟨r, hr⟩ : ∃ r, decide (x = y) = r := ⟨_, rfl⟩
  have e : decide (a = b ∧ x = y) = r := by rw [← hr]; simp [h]
  rw [e]
  have HX := Aside0.mk hx
  have HY := Aside0.mk hy
  have HR := Aside0.mk hr
  have q1 : (a == b) = true := beq_iff_eq.mpr h
  replace h := eq_true h
  clear e hx hy hr
  go_enter Try.func25, Try.ntmps25
  go_wp2_with (first | ((with_reducible refine gate_dst (N := 2) rfl ?_); refine box_event ?hg (N := 2) ?hd (cs := #[.int .i64 a, .slice A x.length c]) (t := 35) ?hr ?_; (case hd => rfl); (case hg => rfl); (case hr => first | (go_simp; done) | (go_simp; rfl)); intro gp hg_ wv hbox hb; have HB := Aside0.mk hb; have Bp := Aside0.mk hbox; clear hbox hg_ hb) | ((with_reducible refine gate_dst (N := 3) rfl ?_); refine box_event ?hg (N := 3) ?hd (cs := #[.int .i64 b, .slice B y.length d]) (t := 35) ?hr ?_; (case hd => rfl); (case hg => rfl); (case hr => first | (go_simp; done) | (go_simp; rfl)); intro gq hg_ wv hbox hb; replace Bp := Aside0.mk (blk_below Bp.out hb); replace HB := Aside0.mk (below_step HB.out hb); have Bq := Aside0.mk hbox; clear hbox hg_ hb; have h1 : wv.cell? ⟨gp, 0, none⟩ = some (.int .i64 a) := (blk_cell Bp.out 0).trans rfl; have h2 : wv.cell? ⟨gp, 1, none⟩ = some (.slice A x.length c) := (blk_cell Bp.out 1).trans rfl; have h3 : wv.cell? ⟨gq, 0, none⟩ = some (.int .i64 b) := (blk_cell Bq.out 0).trans rfl; have h4 : wv.cell? ⟨gq, 1, none⟩ = some (.slice B y.length d) := (blk_cell Bq.out 1).trans rfl) | (go_at_call 26; (with_reducible refine (eq_ A c x B d y _ (Kd.C_below HX.out HB.out) (Kd.C_below HY.out HB.out)).mono ?_); rintro e wv ⟨rfl, hb⟩; rw [HR.out]; clear h1 h2 h3 h4; replace HB := Aside0.mk (below_step HB.out hb); clear hb))
  first | go_ret | go_ret2
  exact ⟨rfl, HB.out⟩
theorem cl_ (a b : Int) (A : Option Addr) (c : Nat) (x : List Int) (B : Option Addr) (d : Nat) (y : List Int) (w : World) (hx : CI w A x) (hy : CI w B y) : Calls Try.prog 25 #[.agg #[.int .i64 a, .slice A x.length c], .agg #[.int .i64 b, .slice B y.length d]] w fun e w' => e = .returned (.bool (decide (a = b ∧ x = y))) ∧ Below w.heap.size w w' := by
  by_cases h : a = b
  · exact cl_y a b A c x B d y w hx hy h
  · exact cl_n a b A c x B d y w hx hy h
end Go.Proofs.Ytcofibbgdnbejaa.Mv11
namespace Go.Proofs.Ytcofibbgdnbejaa.Mv12
open Go.RowKit Go.Proofs.YtcofibbgdnbejaaW.PrintWords Go.Proofs.YtcofibbgdnbejaaW.PrintLast Go.Proofs.YtcofibbgdnbejaaW.PrintMore Go.Proofs.Ytcofibbgdnbejaa.Ints Go.Proofs.Ytcofibbgdnbejaa.Mv1 Go.Proofs.Ytcofibbgdnbejaa.Mv2 Go.Proofs.Ytcofibbgdnbejaa.Mv10 Go.Proofs.Ytcofibbgdnbejaa.Mv11
attribute [local go_sem] max2_int min2_int max_two min_two max_three min_three max_four min_four
set_option linter.unusedVariables false
set_option linter.unusedSimpArgs false
theorem drop_rr {x y : List Rt} {i : Nat} (hx : i < x.length) (hy : i < y.length) : (x.drop i = y.drop i) ↔ (((rr x (i : Int)).1 = (rr y (i : Int)).1 ∧ (rr x (i : Int)).2 = (rr y (i : Int)).2) ∧ x.drop (i + 1) = y.drop (i + 1)) := by
  rw [List.drop_eq_getElem_cons hx, List.drop_eq_getElem_cons hy, List.cons.injEq]
  simp [rr, hx, hy, Prod.ext_iff]
set_option maxHeartbeats 8000000 in
set_option maxRecDepth 100000 in
theorem ef_ne (A : Option Addr) (c : Nat) (x : List Rt) (B : Option Addr) (d : Nat) (y : List Rt) (w : World) (hl : ¬ x.length = y.length) : Calls Try.prog 24 #[.slice A x.length c, .slice B y.length d, .func (.func 25) #[] #[]] w fun e w' => e = .returned (.bool (decide (x = y))) ∧ Below w.heap.size w w' := by
  have e : decide (x = y) = false := decide_eq_false (fun e => hl (by rw [e]))
  rw [e]
  have p1 : ((x.length : Int) = (y.length : Int)) = False := eq_false (by omega)
  have p2 : ((x.length : Int) == (y.length : Int)) = false := beq_eq_false_iff_ne.mpr (by omega)
  have p3 : ((x.length : Int) != (y.length : Int)) = true := by rw [bne, p2]; rfl
  clear hl e
  go_enter Try.func24, Try.ntmps24
  go_wp2
  first | go_ret | go_ret2
  exact ⟨rfl, Below.refl _ _⟩
set_option maxHeartbeats 8000000 in
set_option maxRecDepth 100000 in
theorem ef_len (A : Option Addr) (c : Nat) (x : List Rt) (B : Option Addr) (d : Nat) (y : List Rt) (w : World) (hx : Kd.C kdp w A x.length x) (hy : Kd.C kdp w B y.length y) (hl : x.length = y.length) : Calls Try.prog 24 #[.slice A x.length c, .slice B y.length d, .func (.func 25) #[] #[]] w fun e w' => e = .returned (.bool (decide (x = y))) ∧ Below w.heap.size w w' := by
  have HX := Aside0.mk hx
  have HY := Aside0.mk hy
  have HL := Aside0.mk hl
  obtain ⟨n, hn⟩ : ∃ n, n = x.length := ⟨_, rfl⟩
  have HN := Aside0.mk hn
  have HM := Aside0.mk (show n ≤ 9223372036854775807 by have := hx.2.1; unfold maxLen at this; omega)
  have HB := Aside0.mk (Below.refl w.heap.size w)
  rw [← hl, ← hn]
  obtain ⟨r, hr⟩ : ∃ r, decide (x = y) = r := ⟨_, rfl⟩
  have HR := Aside0.mk hr
  rw [hr]
  clear hr
  have p2 : ((n : Int) == (n : Int)) = true := beq_self_eq_true _
  have p3 : ((n : Int) != (n : Int)) = false := by rw [bne, p2]; rfl
  clear hx hy hl hn
  go_enter Try.func24, Try.ntmps24
  go_wp2
  go_loopg [17] n (fun kq v17 w' => ∃ i : Nat, v17 = .int .i64 (i : Int) ∧ Aside0 (i ≤ n) ∧ Aside0 (n - i ≤ kq) ∧ Aside0 ((x = y) ↔ x.drop i = y.drop i) ∧ Aside0 (Below w.heap.size w w'))
  case atStart => exact ⟨0, rfl, ⟨Nat.zero_le _⟩, ⟨by omega⟩, ⟨by simp⟩, HB⟩
  case round =>
    clear HB
    obtain ⟨i, rfl, HJ, HG, HE, HB⟩ := hrel
    by_cases c1 : (i : Int) < (n : Int)
    · have HIN := Aside0.mk (show i < n by omega)
      obtain ⟨a1, U2, cu, rfl, h1, h2, hu⟩ := at_R HX.out (i : Int) (by omega) (by have := HN.out; omega)
      obtain ⟨a2, V2, cv, rfl, h3, h4, hv⟩ := at_R HY.out (i : Int) (by omega) (by have := HN.out; have := HL.out; omega)
      have hde := drop_rr (x := x) (y := y) (i := i) (by have := HN.out; omega) (by have := HN.out; have := HL.out; omega)
      rw [Int.toNat_natCast] at h1 h2 h3 h4
      obtain ⟨⟨u1, x2⟩, hru⟩ : ∃ u, rr x (i : Int) = u := ⟨_, rfl⟩
      obtain ⟨⟨v1, y2⟩, hrv⟩ : ∃ u, rr y (i : Int) = u := ⟨_, rfl⟩
      simp only [hru, hrv] at h1 h2 h3 h4 hu hv hde
      have HU := Aside0.mk hu
      have HV := Aside0.mk hv
      have H3 := Aside0.mk h3
      have H4 := Aside0.mk h4
      have k1 := (HB.out.cell (World.block_lt_of_cell? w _ h1)).trans h1
      have k2 := (HB.out.cell (World.block_lt_of_cell? w _ h2)).trans h2
      have HDE := Aside0.mk hde
      have HW := Aside0.mk (show wrap64 ((i : Int) + 1) = ((i + 1 : Nat) : Int) by have := HM.out; unfold wrap64; omega)
      have p0 : (0 ≤ (i : Int)) = True := eq_true (by omega)
      replace c1 := eq_true c1
      clear hru hrv hde hu hv h1 h2 h3 h4
      by_cases huv : u1 = v1 ∧ x2 = y2
      · have HQ := Aside0.mk (decide_eq_true huv)
        have HUV := Aside0.mk huv
        clear huv
        go_wp2_with (first | ((with_reducible refine gate_dst (N := 8) rfl ?_); refine box_event ?hg (N := 8) ?hd (cs := #[.int .i64 0, .slice none 0 0]) (t := 35) ?hr ?_; (case hd => rfl); (case hg => rfl); (case hr => first | (go_simp; done) | (go_simp; rfl)); intro gp hgp wv hbox hb; clear k1 k2; have Sp := Aside0.mk (show w.heap.size ≤ gp by rw [hgp]; exact below_size HB.out); replace HB := Aside0.mk (below_step HB.out hb); have Bp := Aside0.mk hbox; clear hbox hgp hb) | ((with_reducible refine gate_store (t := 35) (p := 8) rfl ?_); refine wpList_store_row rfl 35 _ _ rfl gp #[.int .i64 u1, .slice U2 x2.length cu] rfl rfl 35 #[.int .i64 0, .slice none 0 0] Bp.out (by kernel_rfl) rfl (by first | kernel_rfl | (simp [Value.oneCell']; done) | decide) ?_; have hset := setRow_heap wv gp _ #[.int .i64 u1, .slice U2 x2.length cu] _ _ Bp.out; have hbel := below_setRow HB.out Sp.out #[.int .i64 u1, .slice U2 x2.length cu]; obtain ⟨wn, hwn⟩ : ∃ wn, wn = wv.setRow gp #[.int .i64 u1, .slice U2 x2.length cu] := ⟨_, rfl⟩; rw [← hwn] at hset hbel ⊢; clear hwn Bp; replace HB := Aside0.mk hbel; have Bp := Aside0.mk hset; clear hset hbel; have k3 := (HB.out.cell (World.block_lt_of_cell? w _ H3.out)).trans H3.out; have k4 := (HB.out.cell (World.block_lt_of_cell? w _ H4.out)).trans H4.out) | ((with_reducible refine gate_dst (N := 9) rfl ?_); refine box_event ?hg (N := 9) ?hd (cs := #[.int .i64 0, .slice none 0 0]) (t := 35) ?hr ?_; (case hd => rfl); (case hg => rfl); (case hr => first | (go_simp; done) | (go_simp; rfl)); intro gq hgq wv hbox hb; clear k3 k4; have NE := Aside0.mk (show gp ≠ gq by rw [hgq]; exact Nat.ne_of_lt (blk_lt Bp.out)); have Sq := Aside0.mk (show w.heap.size ≤ gq by rw [hgq]; exact below_size HB.out); replace Bp := Aside0.mk (blk_below Bp.out hb); replace HB := Aside0.mk (below_step HB.out hb); have Bq := Aside0.mk hbox; clear hbox hgq hb) | ((with_reducible refine gate_store (t := 35) (p := 9) rfl ?_); refine wpList_store_row rfl 35 _ _ rfl gq #[.int .i64 v1, .slice V2 y2.length cv] rfl rfl 35 #[.int .i64 0, .slice none 0 0] Bq.out (by kernel_rfl) rfl (by first | kernel_rfl | (simp [Value.oneCell']; done) | decide) ?_; have hset := setRow_heap wv gq _ #[.int .i64 v1, .slice V2 y2.length cv] _ _ Bq.out; have hbel := below_setRow HB.out Sq.out #[.int .i64 v1, .slice V2 y2.length cv]; have hset2 := (setRow_other wv gq gp #[.int .i64 v1, .slice V2 y2.length cv] NE.out).trans Bp.out; obtain ⟨wn, hwn⟩ : ∃ wn, wn = wv.setRow gq #[.int .i64 v1, .slice V2 y2.length cv] := ⟨_, rfl⟩; rw [← hwn] at hset hbel hset2 ⊢; clear hwn Bq; replace HB := Aside0.mk hbel; have Bq := Aside0.mk hset; clear hset hbel; replace Bp := Aside0.mk hset2; clear hset2) | ((with_reducible refine gate_dst (N := 27) rfl ?_); refine wpList_load_row rfl 35 (.tmp 8) rfl gp rfl 35 #[.int .i64 u1, .slice U2 x2.length cu] (0, 0) _ Bp.out Try.underlying35 rfl (by kernel_rfl) ?_) | ((with_reducible refine gate_dst (N := 28) rfl ?_); refine wpList_load_row rfl 35 (.tmp 9) rfl gq rfl 35 #[.int .i64 v1, .slice V2 y2.length cv] (0, 0) _ Bq.out Try.underlying35 rfl (by kernel_rfl) ?_) | (go_at_call 25; (with_reducible refine (cl_ u1 v1 U2 cu x2 V2 cv y2 _ (Kd.C_below HU.out HB.out) (Kd.C_below HV.out HB.out)).mono ?_); rintro e wv ⟨rfl, hb⟩; rw [HQ.out]; replace HB := Aside0.mk (below_step HB.out hb); clear hb))
        go_roundg (n - (i + 1))
        case measure => have := HJ.out; have := HG.out; have := HIN.out; omega
        case rel => exact ⟨i + 1, by first | rfl | rw [HW.out], ⟨by have := HIN.out; omega⟩, ⟨by omega⟩, ⟨HE.out.trans (HDE.out.trans ⟨fun h => h.2, fun h => ⟨HUV.out, h⟩⟩)⟩, HB⟩
      · have HQ := Aside0.mk (decide_eq_false huv)
        have e : false = r := by rw [← HR.out]; exact (decide_eq_false (fun h => huv (HDE.out.1 (HE.out.1 h)).1)).symm
        clear huv
        subst e
        go_wp2_with (first | ((with_reducible refine gate_dst (N := 8) rfl ?_); refine box_event ?hg (N := 8) ?hd (cs := #[.int .i64 0, .slice none 0 0]) (t := 35) ?hr ?_; (case hd => rfl); (case hg => rfl); (case hr => first | (go_simp; done) | (go_simp; rfl)); intro gp hgp wv hbox hb; clear k1 k2; have Sp := Aside0.mk (show w.heap.size ≤ gp by rw [hgp]; exact below_size HB.out); replace HB := Aside0.mk (below_step HB.out hb); have Bp := Aside0.mk hbox; clear hbox hgp hb) | ((with_reducible refine gate_store (t := 35) (p := 8) rfl ?_); refine wpList_store_row rfl 35 _ _ rfl gp #[.int .i64 u1, .slice U2 x2.length cu] rfl rfl 35 #[.int .i64 0, .slice none 0 0] Bp.out (by kernel_rfl) rfl (by first | kernel_rfl | (simp [Value.oneCell']; done) | decide) ?_; have hset := setRow_heap wv gp _ #[.int .i64 u1, .slice U2 x2.length cu] _ _ Bp.out; have hbel := below_setRow HB.out Sp.out #[.int .i64 u1, .slice U2 x2.length cu]; obtain ⟨wn, hwn⟩ : ∃ wn, wn = wv.setRow gp #[.int .i64 u1, .slice U2 x2.length cu] := ⟨_, rfl⟩; rw [← hwn] at hset hbel ⊢; clear hwn Bp; replace HB := Aside0.mk hbel; have Bp := Aside0.mk hset; clear hset hbel; have k3 := (HB.out.cell (World.block_lt_of_cell? w _ H3.out)).trans H3.out; have k4 := (HB.out.cell (World.block_lt_of_cell? w _ H4.out)).trans H4.out) | ((with_reducible refine gate_dst (N := 9) rfl ?_); refine box_event ?hg (N := 9) ?hd (cs := #[.int .i64 0, .slice none 0 0]) (t := 35) ?hr ?_; (case hd => rfl); (case hg => rfl); (case hr => first | (go_simp; done) | (go_simp; rfl)); intro gq hgq wv hbox hb; clear k3 k4; have NE := Aside0.mk (show gp ≠ gq by rw [hgq]; exact Nat.ne_of_lt (blk_lt Bp.out)); have Sq := Aside0.mk (show w.heap.size ≤ gq by rw [hgq]; exact below_size HB.out); replace Bp := Aside0.mk (blk_below Bp.out hb); replace HB := Aside0.mk (below_step HB.out hb); have Bq := Aside0.mk hbox; clear hbox hgq hb) | ((with_reducible refine gate_store (t := 35) (p := 9) rfl ?_); refine wpList_store_row rfl 35 _ _ rfl gq #[.int .i64 v1, .slice V2 y2.length cv] rfl rfl 35 #[.int .i64 0, .slice none 0 0] Bq.out (by kernel_rfl) rfl (by first | kernel_rfl | (simp [Value.oneCell']; done) | decide) ?_; have hset := setRow_heap wv gq _ #[.int .i64 v1, .slice V2 y2.length cv] _ _ Bq.out; have hbel := below_setRow HB.out Sq.out #[.int .i64 v1, .slice V2 y2.length cv]; have hset2 := (setRow_other wv gq gp #[.int .i64 v1, .slice V2 y2.length cv] NE.out).trans Bp.out; obtain ⟨wn, hwn⟩ : ∃ wn, wn = wv.setRow gq #[.int .i64 v1, .slice V2 y2.length cv] := ⟨_, rfl⟩; rw [← hwn] at hset hbel hset2 ⊢; clear hwn Bq; replace HB := Aside0.mk hbel; have Bq := Aside0.mk hset; clear hset hbel; replace Bp := Aside0.mk hset2; clear hset2) | ((with_reducible refine gate_dst (N := 27) rfl ?_); refine wpList_load_row rfl 35 (.tmp 8) rfl gp rfl 35 #[.int .i64 u1, .slice U2 x2.length cu] (0, 0) _ Bp.out Try.underlying35 rfl (by kernel_rfl) ?_) | ((with_reducible refine gate_dst (N := 28) rfl ?_); refine wpList_load_row rfl 35 (.tmp 9) rfl gq rfl 35 #[.int .i64 v1, .slice V2 y2.length cv] (0, 0) _ Bq.out Try.underlying35 rfl (by kernel_rfl) ?_) | (go_at_call 25; (with_reducible refine (cl_ u1 v1 U2 cu x2 V2 cv y2 _ (Kd.C_below HU.out HB.out) (Kd.C_below HV.out HB.out)).mono ?_); rintro e wv ⟨rfl, hb⟩; rw [HQ.out]; replace HB := Aside0.mk (below_step HB.out hb); clear hb))
        first | go_ret | go_ret2
        exact ⟨rfl, HB.out⟩
    · obtain rfl : i = n := by have := HJ.out; omega
      replace c1 := eq_false c1
      have e : true = r := by rw [← HR.out]; exact (decide_eq_true (HE.out.2 (by rw [List.drop_of_length_le (by have := HN.out; omega), List.drop_of_length_le (by have := HN.out; have := HL.out; omega)]))).symm
      subst e
      go_wp2
      first | go_ret | go_ret2
      exact ⟨rfl, HB.out⟩
theorem ef_ (A : Option Addr) (c : Nat) (x : List Rt) (B : Option Addr) (d : Nat) (y : List Rt) (w : World) (hx : Kd.C kdp w A x.length x) (hy : Kd.C kdp w B y.length y) : Calls Try.prog 24 #[.slice A x.length c, .slice B y.length d, .func (.func 25) #[] #[]] w fun e w' => e = .returned (.bool (decide (x = y))) ∧ Below w.heap.size w w' := by
  by_cases hl : x.length = y.length
  · exact ef_len A c x B d y w hx hy hl
  · exact ef_ne A c x B d y w hl
set_option maxHeartbeats 8000000 in
set_option maxRecDepth 100000 in
theorem same_ (A : Option Addr) (c : Nat) (x : List Rt) (B : Option Addr) (d : Nat) (y : List Rt) (w : World) (hx : Kd.C kdp w A x.length x) (hy : Kd.C kdp w B y.length y) : Calls Try.prog 13 #[.slice A x.length c, .slice B y.length d] w fun e w' => e = .returned (.bool (decide (x = y))) ∧ Below w.heap.size w w' := by
  have HX := Aside0.mk hx
  have HY := Aside0.mk hy
  obtain ⟨r, hr⟩ : ∃ r, decide (x = y) = r := ⟨_, rfl⟩
  have HR := Aside0.mk hr
  rw [hr]
  clear hx hy hr
  go_enter Try.func13, Try.ntmps13
  go_wp2_with (go_at_call 24; (with_reducible refine (ef_ A c x B d y _ HX.out HY.out).mono ?_); rintro e wv ⟨rfl, hb⟩; rw [HR.out]; have HB := Aside0.mk hb; clear hb)
  first | go_ret | go_ret2
  exact ⟨rfl, HB.out⟩
end Go.Proofs.Ytcofibbgdnbejaa.Mv12
namespace Go.Proofs.Ytcofibbgdnbejaa.Mv13
open Go.RowKit Go.Proofs.YtcofibbgdnbejaaW.PrintWords Go.Proofs.YtcofibbgdnbejaaW.PrintLast Go.Proofs.YtcofibbgdnbejaaW.PrintMore Go.Proofs.Ytcofibbgdnbejaa.Ints Go.Proofs.Ytcofibbgdnbejaa.Mv1 Go.Proofs.Ytcofibbgdnbejaa.Mv2 Go.Proofs.Ytcofibbgdnbejaa.Mv3 Go.Proofs.Ytcofibbgdnbejaa.Mv5 Go.Proofs.Ytcofibbgdnbejaa.Mv6 Go.Proofs.Ytcofibbgdnbejaa.Mv7 Go.Proofs.Ytcofibbgdnbejaa.Mv8 Go.Proofs.Ytcofibbgdnbejaa.Mv9 Go.Proofs.Ytcofibbgdnbejaa.Mv11 Go.Proofs.Ytcofibbgdnbejaa.Mv12
attribute [local go_sem] max2_int min2_int max_two min_two max_three min_three max_four min_four
set_option linter.unusedVariables false
set_option linter.unusedSimpArgs false
set_option maxHeartbeats 8000000 in
set_option maxRecDepth 100000 in
theorem don_p (k a i b j n : Int) (w : World) (h : a < 0) : Calls Try.prog 21 #[.agg #[.int .i64 k, .int .i64 a, .int .i64 i, .int .i64 b, .int .i64 j, .int .i64 n], .slice none 0 0] w fun e w' => e = .returned (.bool false) ∧ Below w.heap.size w w' := by
  have p185 : (a < 0) = True := eq_true (by omega)
  have q185 : (0 ≤ a) = False := eq_false (by omega)
  clear h
  go_enter Try.func21, Try.ntmps21
  go_wp2_with (first | ((with_reducible refine gate_dst (N := 2) rfl ?_); refine box_event ?hg (N := 2) ?hd (cs := #[.int .i64 k, .int .i64 a, .int .i64 i, .int .i64 b, .int .i64 j, .int .i64 n]) (t := 29) ?hr ?_; (case hd => rfl); (case hg => rfl); (case hr => first | (go_simp; done) | (go_simp; rfl)); intro gm hg_ wv hbox hb; have HB := Aside0.mk hb; have BM := Aside0.mk hbox; have hc1 : wv.cell? ⟨gm, 1, none⟩ = some (.int .i64 a) := (blk_cell BM.out 1).trans rfl; clear hbox hg_ hb))
  first | go_ret | go_ret2
  exact ⟨rfl, HB.out⟩
set_option maxHeartbeats 8000000 in
set_option maxRecDepth 100000 in
theorem don_q (k a i b j n : Int) (w : World) (h : 0 ≤ a) : Calls Try.prog 21 #[.agg #[.int .i64 k, .int .i64 a, .int .i64 i, .int .i64 b, .int .i64 j, .int .i64 n], .slice none 0 0] w fun e w' => e = .returned (.bool false) ∧ Below w.heap.size w w' := by
  have p186 : (a < 0) = False := eq_false (by omega)
  have q186 : (0 ≤ a) = True := eq_true (by omega)
  have p187 : (0 ≤ a) = True := eq_true (by omega)
  have q187 : (a < 0) = False := eq_false (by omega)
  clear h
  go_enter Try.func21, Try.ntmps21
  go_wp2_with (first | ((with_reducible refine gate_dst (N := 2) rfl ?_); refine box_event ?hg (N := 2) ?hd (cs := #[.int .i64 k, .int .i64 a, .int .i64 i, .int .i64 b, .int .i64 j, .int .i64 n]) (t := 29) ?hr ?_; (case hd => rfl); (case hg => rfl); (case hr => first | (go_simp; done) | (go_simp; rfl)); intro gm hg_ wv hbox hb; have HB := Aside0.mk hb; have BM := Aside0.mk hbox; have hc1 : wv.cell? ⟨gm, 1, none⟩ = some (.int .i64 a) := (blk_cell BM.out 1).trans rfl; clear hbox hg_ hb))
  first | go_ret | go_ret2
  exact ⟨rfl, HB.out⟩
theorem don (k a i b j n : Int) (w : World) : Calls Try.prog 21 #[.agg #[.int .i64 k, .int .i64 a, .int .i64 i, .int .i64 b, .int .i64 j, .int .i64 n], .slice none 0 0] w fun e w' => e = .returned (.bool false) ∧ Below w.heap.size w w' := by
  by_cases h : a < 0
  · exact don_p k a i b j n w h
  · exact don_q k a i b j n w (by omega)
section
variable {α : Type} (t : α → Rt) (tb : Rt → α) (h1 : ∀ x, t (tb x) = x)
def ap (tb : Rt → α) (rs : List Rt) (k a i b j n : Int) : List α × Bool := if (doS rs k a i b j n).1 = true ∧ ¬ rs = (doS rs k a i b j n).2 then ((doS rs k a i b j n).2.map tb, true) else ([], false)
include h1
omit h1 in
theorem doS_len (rs : List Rt) (k a i b j n : Int) : (doS rs k a i b j n).2.length = rs.length := by
  unfold doS chS exS taS turnS
  simp only []
  repeat' split
  all_goals simp
theorem do_any (W0 : World) (v0 : Value) (l0 : List α) (k a i b j n : Int) (w : World) (hb : Below W0.heap.size W0 w) (hS : Kd.S (Kd.iso kdp t) 35 w W0.heap.size (fun _ => True) v0 l0) (hm : ∀ j, (st (l0.map t) j).length ≤ 1000000) :
    Calls Try.prog 21 #[.agg #[.int .i64 k, .int .i64 a, .int .i64 i, .int .i64 b, .int .i64 j, .int .i64 n], v0] w fun e w' => e = .returned (.bool (doS (l0.map t) k a i b j n).1) ∧ Below W0.heap.size W0 w' ∧ Kd.S (Kd.iso kdp t) 35 w' W0.heap.size (fun _ => True) v0 ((doS (l0.map t) k a i b j n).2.map tb) := by
  have hS' := hS
  obtain ⟨f, hown, inner, ho, hrep⟩ := hS'
  rcases ho.2 with ⟨hv, hl⟩ | ⟨g, cap, cur, hv, hr⟩
  · subst hv
    obtain rfl : l0 = [] := by
      have := (Kd.S_reads' hS).1
      exact List.length_eq_zero_iff.1 this.symm
    refine (don k a i b j n w).mono ?_
    rintro e w' ⟨rfl, hb2⟩
    have e0 : doS ([].map t) k a i b j n = (false, []) := by
      unfold doS
      rw [if_neg (by simp; omega)]
      rfl
    rw [e0]
    exact ⟨rfl, below_step hb hb2, Kd.S_nil _ _ _ _ _⟩
  · subst hv
    have hn := (Kd.S_reads' hS).1
    rw [hn] at hS ⊢
    obtain ⟨svs, hT⟩ := RT_of_S hS
    have h := do_ W0 g cap (l0.map t) svs k a i b j n w hb hT hm
    rw [List.length_map] at h
    refine h.mono ?_
    rintro e w' ⟨svs', rfl, hb2, hT2⟩
    refine ⟨rfl, hb2, ?_⟩
    have h3 := S_of_RT (t := t) (xs := (doS (l0.map t) k a i b j n).2.map tb) (by rw [List.map_map, show (t ∘ tb) = id from funext h1, List.map_id]; exact hT2)
    rw [List.length_map, doS_len, List.length_map] at h3
    exact h3
omit h1 in
theorem sameM (A : Option Addr) (c : Nat) (x : List α) (B : Option Addr) (d : Nat) (y : List α) (w : World) (hx : Kd.C (Kd.iso kdp t) w A x.length x) (hy : Kd.C (Kd.iso kdp t) w B y.length y) : Calls Try.prog 13 #[.slice A x.length c, .slice B y.length d] w fun e w' => e = .returned (.bool (decide (x.map t = y.map t))) ∧ Below w.heap.size w w' := by
  have h := same_ A c (x.map t) B d (y.map t) w (by rw [List.length_map]; exact C_map hx) (by rw [List.length_map]; exact C_map hy)
  simpa only [List.length_map] using h
set_option maxHeartbeats 8000000 in
set_option maxRecDepth 100000 in
theorem ap_1 (A0 : Option Addr) (c0 : Nat) (l0 : List α) (k a i b j n : Int) (w : World) (hr0 : Kd.C (Kd.iso kdp t) w A0 l0.length l0) (hown : ∀ w, Kd.C (Kd.iso kdp t) w A0 l0.length l0 → Calls Try.prog 20 #[.slice A0 l0.length c0] w fun e w' => ∃ v0_ : Value, e = .returned v0_ ∧ Kd.S (Kd.iso kdp t) 35 w' w.heap.size (fun _ => True) v0_ l0 ∧ Below w.heap.size w w') (hm : ∀ j, (st (l0.map t) j).length ≤ 1000000) (h : (doS (l0.map t) k a i b j n).1 = false) : Calls Try.prog 10 #[.slice A0 l0.length c0, .agg #[.int .i64 k, .int .i64 a, .int .i64 i, .int .i64 b, .int .i64 j, .int .i64 n]] w fun e w' => ∃ v0_ : Value, e = .returned (.tuple #[v0_, .bool (ap tb (l0.map t) k a i b j n).2]) ∧ Kd.S (Kd.iso kdp t) 35 w' w.heap.size (fun _ => True) v0_ (ap tb (l0.map t) k a i b j n).1 ∧ Below w.heap.size w w' := by
  have HM := Aside0.mk hm
  have HD := Aside0.mk (show (doS (l0.map t) k a i b j n).1 = false from h)
  rw [show ap tb (l0.map t) k a i b j n = ([], false) from by unfold ap; rw [if_neg (by rw [h]; simp)]]
  have HR0 := Aside0.mk hr0
  have HRW := Aside0.mk hr0
  clear hm h hr0
  go_enter Try.func10, Try.ntmps10
  go_wp2_with (first | ((with_reducible refine gate_dst (N := 3) rfl ?_); refine box_event ?hg (N := 3) ?hd (cs := #[.int .i64 k, .int .i64 a, .int .i64 i, .int .i64 b, .int .i64 j, .int .i64 n]) (t := 29) ?hr ?_; (case hd => rfl); (case hg => rfl); (case hr => first | (go_simp; done) | (go_simp; rfl)); intro gm hg_ wv hbox hb; have HB := Aside0.mk hb; replace HR0 := Aside0.mk (Kd.C_below HR0.out hb); have BM := Aside0.mk hbox; have HGM := Aside0.mk (Nat.le_of_eq hg_.symm); clear hbox hg_ hb) | (go_at_call 20; (with_reducible refine (hown _ HR0.out).mono ?_); rintro e wv ⟨v0, rfl, hS, hb⟩; have HS := Aside0.mk (Kd.S_lower hS (below_size HB.out)); replace HR0 := Aside0.mk (Kd.C_below HR0.out hb); replace BM := Aside0.mk (blk_below BM.out hb); replace HB := Aside0.mk (below_step HB.out hb); clear hS hb) | ((with_reducible refine gate_dst (N := 9) rfl ?_); refine wpList_load_row rfl 29 (.tmp 3) rfl gm rfl 29 #[.int .i64 k, .int .i64 a, .int .i64 i, .int .i64 b, .int .i64 j, .int .i64 n] (0, 0) _ BM.out Try.underlying29 rfl (by kernel_rfl) ?_) | (go_at_call 21; (with_reducible refine (do_any t tb h1 w v0 l0 k a i b j n _ HB.out HS.out HM.out).mono ?_); rintro e wv ⟨rfl, hb, hS⟩; rw [HD.out]; replace HB := Aside0.mk hb; replace HS := Aside0.mk hS; clear hb hS BM))
  first | go_ret | go_ret2
  exact ⟨_, rfl, Kd.S_nil _ _ _ _ _, HB.out⟩
set_option maxHeartbeats 8000000 in
set_option maxRecDepth 100000 in
theorem ap_2 (A0 : Option Addr) (c0 : Nat) (l0 : List α) (k a i b j n : Int) (w : World) (hr0 : Kd.C (Kd.iso kdp t) w A0 l0.length l0) (hown : ∀ w, Kd.C (Kd.iso kdp t) w A0 l0.length l0 → Calls Try.prog 20 #[.slice A0 l0.length c0] w fun e w' => ∃ v0_ : Value, e = .returned v0_ ∧ Kd.S (Kd.iso kdp t) 35 w' w.heap.size (fun _ => True) v0_ l0 ∧ Below w.heap.size w w') (hm : ∀ j, (st (l0.map t) j).length ≤ 1000000) (h : (doS (l0.map t) k a i b j n).1 = true ∧ l0.map t = (doS (l0.map t) k a i b j n).2) : Calls Try.prog 10 #[.slice A0 l0.length c0, .agg #[.int .i64 k, .int .i64 a, .int .i64 i, .int .i64 b, .int .i64 j, .int .i64 n]] w fun e w' => ∃ v0_ : Value, e = .returned (.tuple #[v0_, .bool (ap tb (l0.map t) k a i b j n).2]) ∧ Kd.S (Kd.iso kdp t) 35 w' w.heap.size (fun _ => True) v0_ (ap tb (l0.map t) k a i b j n).1 ∧ Below w.heap.size w w' := by
  have HM := Aside0.mk hm
  have HD := Aside0.mk (show (doS (l0.map t) k a i b j n).1 = true from h.1)
  have HE := Aside0.mk (show decide (l0.map t = ((doS (l0.map t) k a i b j n).2.map tb).map t) = true by rw [List.map_map, show (t ∘ tb) = id from funext h1, List.map_id]; exact decide_eq_true h.2)
  rw [show ap tb (l0.map t) k a i b j n = ([], false) from by unfold ap; rw [if_neg (fun q => q.2 h.2)]]
  have HR0 := Aside0.mk hr0
  have HRW := Aside0.mk hr0
  clear hm h hr0
  go_enter Try.func10, Try.ntmps10
  go_wp2_with (first | ((with_reducible refine gate_dst (N := 3) rfl ?_); refine box_event ?hg (N := 3) ?hd (cs := #[.int .i64 k, .int .i64 a, .int .i64 i, .int .i64 b, .int .i64 j, .int .i64 n]) (t := 29) ?hr ?_; (case hd => rfl); (case hg => rfl); (case hr => first | (go_simp; done) | (go_simp; rfl)); intro gm hg_ wv hbox hb; have HB := Aside0.mk hb; replace HR0 := Aside0.mk (Kd.C_below HR0.out hb); have BM := Aside0.mk hbox; have HGM := Aside0.mk (Nat.le_of_eq hg_.symm); clear hbox hg_ hb) | (go_at_call 20; (with_reducible refine (hown _ HR0.out).mono ?_); rintro e wv ⟨v0, rfl, hS, hb⟩; have HS := Aside0.mk (Kd.S_lower hS (below_size HB.out)); replace HR0 := Aside0.mk (Kd.C_below HR0.out hb); replace BM := Aside0.mk (blk_below BM.out hb); replace HB := Aside0.mk (below_step HB.out hb); clear hS hb) | ((with_reducible refine gate_dst (N := 9) rfl ?_); refine wpList_load_row rfl 29 (.tmp 3) rfl gm rfl 29 #[.int .i64 k, .int .i64 a, .int .i64 i, .int .i64 b, .int .i64 j, .int .i64 n] (0, 0) _ BM.out Try.underlying29 rfl (by kernel_rfl) ?_) | (go_at_call 21; (with_reducible refine (do_any t tb h1 w v0 l0 k a i b j n _ HB.out HS.out HM.out).mono ?_); rintro e wv ⟨rfl, hb, hS⟩; rw [HD.out]; replace HB := Aside0.mk hb; replace HS := Aside0.mk hS; clear hb hS BM) | (go_at_call 13; obtain ⟨A1, c1, hv, hc1, hC1⟩ := Kd.S_reads HS.out; subst hv; (with_reducible refine (sameM t A0 c0 l0 A1 c1 _ _ (Kd.C_below HRW.out HB.out) hC1).mono ?_); rintro e wv ⟨rfl, hb⟩; rw [HE.out]; replace HS := Aside0.mk (Kd.S_below HS.out hb); replace HB := Aside0.mk (below_step HB.out hb); clear hb hc1 hC1))
  first | go_ret | go_ret2
  exact ⟨_, rfl, Kd.S_nil _ _ _ _ _, HB.out⟩
set_option maxHeartbeats 8000000 in
set_option maxRecDepth 100000 in
theorem ap_3 (A0 : Option Addr) (c0 : Nat) (l0 : List α) (k a i b j n : Int) (w : World) (hr0 : Kd.C (Kd.iso kdp t) w A0 l0.length l0) (hown : ∀ w, Kd.C (Kd.iso kdp t) w A0 l0.length l0 → Calls Try.prog 20 #[.slice A0 l0.length c0] w fun e w' => ∃ v0_ : Value, e = .returned v0_ ∧ Kd.S (Kd.iso kdp t) 35 w' w.heap.size (fun _ => True) v0_ l0 ∧ Below w.heap.size w w') (hm : ∀ j, (st (l0.map t) j).length ≤ 1000000) (h : (doS (l0.map t) k a i b j n).1 = true ∧ ¬ l0.map t = (doS (l0.map t) k a i b j n).2) : Calls Try.prog 10 #[.slice A0 l0.length c0, .agg #[.int .i64 k, .int .i64 a, .int .i64 i, .int .i64 b, .int .i64 j, .int .i64 n]] w fun e w' => ∃ v0_ : Value, e = .returned (.tuple #[v0_, .bool (ap tb (l0.map t) k a i b j n).2]) ∧ Kd.S (Kd.iso kdp t) 35 w' w.heap.size (fun _ => True) v0_ (ap tb (l0.map t) k a i b j n).1 ∧ Below w.heap.size w w' := by
  have HM := Aside0.mk hm
  have HD := Aside0.mk (show (doS (l0.map t) k a i b j n).1 = true from h.1)
  have HE := Aside0.mk (show decide (l0.map t = ((doS (l0.map t) k a i b j n).2.map tb).map t) = false by rw [List.map_map, show (t ∘ tb) = id from funext h1, List.map_id]; exact decide_eq_false h.2)
  rw [show ap tb (l0.map t) k a i b j n = ((doS (l0.map t) k a i b j n).2.map tb, true) from by unfold ap; rw [if_pos h]]
  have HR0 := Aside0.mk hr0
  have HRW := Aside0.mk hr0
  clear hm h hr0
  go_enter Try.func10, Try.ntmps10
  go_wp2_with (first | ((with_reducible refine gate_dst (N := 3) rfl ?_); refine box_event ?hg (N := 3) ?hd (cs := #[.int .i64 k, .int .i64 a, .int .i64 i, .int .i64 b, .int .i64 j, .int .i64 n]) (t := 29) ?hr ?_; (case hd => rfl); (case hg => rfl); (case hr => first | (go_simp; done) | (go_simp; rfl)); intro gm hg_ wv hbox hb; have HB := Aside0.mk hb; replace HR0 := Aside0.mk (Kd.C_below HR0.out hb); have BM := Aside0.mk hbox; have HGM := Aside0.mk (Nat.le_of_eq hg_.symm); clear hbox hg_ hb) | (go_at_call 20; (with_reducible refine (hown _ HR0.out).mono ?_); rintro e wv ⟨v0, rfl, hS, hb⟩; have HS := Aside0.mk (Kd.S_lower hS (below_size HB.out)); replace HR0 := Aside0.mk (Kd.C_below HR0.out hb); replace BM := Aside0.mk (blk_below BM.out hb); replace HB := Aside0.mk (below_step HB.out hb); clear hS hb) | ((with_reducible refine gate_dst (N := 9) rfl ?_); refine wpList_load_row rfl 29 (.tmp 3) rfl gm rfl 29 #[.int .i64 k, .int .i64 a, .int .i64 i, .int .i64 b, .int .i64 j, .int .i64 n] (0, 0) _ BM.out Try.underlying29 rfl (by kernel_rfl) ?_) | (go_at_call 21; (with_reducible refine (do_any t tb h1 w v0 l0 k a i b j n _ HB.out HS.out HM.out).mono ?_); rintro e wv ⟨rfl, hb, hS⟩; rw [HD.out]; replace HB := Aside0.mk hb; replace HS := Aside0.mk hS; clear hb hS BM) | (go_at_call 13; obtain ⟨A1, c1, hv, hc1, hC1⟩ := Kd.S_reads HS.out; subst hv; (with_reducible refine (sameM t A0 c0 l0 A1 c1 _ _ (Kd.C_below HRW.out HB.out) hC1).mono ?_); rintro e wv ⟨rfl, hb⟩; rw [HE.out]; replace HS := Aside0.mk (Kd.S_below HS.out hb); replace HB := Aside0.mk (below_step HB.out hb); clear hb hc1 hC1))
  first | go_ret | go_ret2
  exact ⟨_, rfl, (by have hq := HS.out; rw [List.length_map] at hq; exact hq), HB.out⟩
theorem ap_ (A0 : Option Addr) (c0 : Nat) (l0 : List α) (k a i b j n : Int) (w : World) (hr0 : Kd.C (Kd.iso kdp t) w A0 l0.length l0) (hown : ∀ w, Kd.C (Kd.iso kdp t) w A0 l0.length l0 → Calls Try.prog 20 #[.slice A0 l0.length c0] w fun e w' => ∃ v0_ : Value, e = .returned v0_ ∧ Kd.S (Kd.iso kdp t) 35 w' w.heap.size (fun _ => True) v0_ l0 ∧ Below w.heap.size w w') (hm : ∀ j, (st (l0.map t) j).length ≤ 1000000) : Calls Try.prog 10 #[.slice A0 l0.length c0, .agg #[.int .i64 k, .int .i64 a, .int .i64 i, .int .i64 b, .int .i64 j, .int .i64 n]] w fun e w' => ∃ v0_ : Value, e = .returned (.tuple #[v0_, .bool (ap tb (l0.map t) k a i b j n).2]) ∧ Kd.S (Kd.iso kdp t) 35 w' w.heap.size (fun _ => True) v0_ (ap tb (l0.map t) k a i b j n).1 ∧ Below w.heap.size w w' := by
  cases hd : (doS (l0.map t) k a i b j n).1
  · exact ap_1 t tb h1 A0 c0 l0 k a i b j n w hr0 hown hm hd
  by_cases he : l0.map t = (doS (l0.map t) k a i b j n).2
  · exact ap_2 t tb h1 A0 c0 l0 k a i b j n w hr0 hown hm ⟨hd, he⟩
  · exact ap_3 t tb h1 A0 c0 l0 k a i b j n w hr0 hown hm ⟨hd, he⟩
end
end Go.Proofs.Ytcofibbgdnbejaa.Mv13
namespace Go.Proofs.Ytcofibbgdnbejaa.Mv14
open Go.RowKit Go.Proofs.Ytcofibbgdnbejaa.Mv1 Go.Proofs.Ytcofibbgdnbejaa.Mv2 Go.Proofs.Ytcofibbgdnbejaa.Mv3 Go.Proofs.Ytcofibbgdnbejaa.Mv5 Go.Proofs.Ytcofibbgdnbejaa.Mv6 Go.Proofs.Ytcofibbgdnbejaa.Mv7 Go.Proofs.Ytcofibbgdnbejaa.Mv8 Go.Proofs.Ytcofibbgdnbejaa.Mv13
set_option linter.unusedVariables false
set_option linter.unusedSimpArgs false
def upd (rs : List Rt) (a : Nat) (xs : List Int) : List Rt := rs.set a (tr rs a, xs)
def rmv (xs : List Int) (i n : Nat) : List Int := xs.take i ++ xs.drop (i + n)
def ins (xs : List Int) (j : Nat) (ys : List Int) : List Int := xs.take j ++ ys ++ xs.drop j
theorem upd_len (rs : List Rt) (a : Nat) (xs : List Int) : (upd rs a xs).length = rs.length := by simp [upd]
theorem upd_st (rs : List Rt) (a : Nat) (xs : List Int) (h : a < rs.length) : st (upd rs a xs) a = xs := by simp [st, upd, h]
theorem upd_st_ne (rs : List Rt) (a b : Nat) (xs : List Int) (h : a ≠ b) : st (upd rs a xs) b = st rs b := by simp [st, upd, h]
/-! sums over the routes -/
structure Adds (f : List Int → Nat) : Prop where
  add : ∀ x y, f (x ++ y) = f x + f y
  rev : ∀ x, f x.reverse = f x
theorem Adds.nil {f : List Int → Nat} (hf : Adds f) : f [] = 0 := by
  have := hf.add [] []
  simp at this
  exact this
/-! the appliers, when they are moves -/
theorem tk_split (xs : List Int) (i n : Nat) : xs = xs.take i ++ tkS xs i n ++ xs.drop (i + n) := by
  unfold tkS
  have h := List.take_append_drop (i + n) xs
  have h2 := List.take_append_drop i (xs.take (i + n))
  rw [List.take_take, Nat.min_eq_left (by omega)] at h2
  rw [h2, h]
theorem ch_char {rs : List Rt} {a b i j n : Int} (h : (chS rs a b i j n).1 = true) : 0 ≤ i ∧ i + n ≤ ((st rs a.toNat).length : Int) ∧ 0 ≤ j ∧ j ≤ ((st (upd rs a.toNat (rmv (st rs a.toNat) i.toNat n.toNat)) b.toNat).length : Int) ∧
    (chS rs a b i j n).2 = upd (upd rs a.toNat (rmv (st rs a.toNat) i.toNat n.toNat)) b.toNat (ins (st (upd rs a.toNat (rmv (st rs a.toNat) i.toNat n.toNat)) b.toNat) j.toNat (tkS (st rs a.toNat) i.toNat n.toNat)) := by
  unfold chS at h ⊢
  split at h
  · rename_i c1
    rw [if_pos c1]
    split at h
    · rename_i c2
      rw [if_pos c2]
      exact ⟨c1.1, c1.2, c2.1, c2.2, rfl⟩
    · simp at h
  · simp at h
theorem ch_mk {rs : List Rt} {a b i j n : Int} (h : 0 ≤ i ∧ i + n ≤ ((st rs a.toNat).length : Int) ∧ 0 ≤ j ∧ j ≤ ((st (upd rs a.toNat (rmv (st rs a.toNat) i.toNat n.toNat)) b.toNat).length : Int)) :
    chS rs a b i j n = (true, upd (upd rs a.toNat (rmv (st rs a.toNat) i.toNat n.toNat)) b.toNat (ins (st (upd rs a.toNat (rmv (st rs a.toNat) i.toNat n.toNat)) b.toNat) j.toNat (tkS (st rs a.toNat) i.toNat n.toNat))) := by
  unfold chS
  rw [if_pos ⟨h.1, h.2.1⟩, if_pos (by exact ⟨h.2.2.1, h.2.2.2⟩)]
  rfl
section
variable {f : List Int → Nat} (hf : Adds f)
include hf
end
/-! there and back -/
theorem ins_rmv (xs : List Int) (i n : Nat) (h : i + n ≤ xs.length) : ins (rmv xs i n) i (tkS xs i n) = xs := by
  have e : (xs.take i).length = i := by simp; omega
  have h2 := tk_split xs i n
  unfold ins rmv
  rw [List.take_append_of_le_length (by omega), List.take_of_length_le (by omega), List.drop_append, List.drop_of_length_le (by omega), e]
  simp only [Nat.sub_self, List.drop_zero, List.nil_append]
  exact h2.symm
theorem tkS_len (xs : List Int) (i n : Nat) (h : i + n ≤ xs.length) : (tkS xs i n).length = n := by
  unfold tkS
  simp
  omega
theorem getD_some (xs : List Int) (i : Nat) (h : i < xs.length) : xs[i]? = some (xs.getD i 0) := by simp [h]
end Go.Proofs.Ytcofibbgdnbejaa.Mv14
