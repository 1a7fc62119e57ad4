/- move.Same over lists of routes. -/
import Derived.Test.YtcofibbgdnbejaaMv10
namespace Go.Proofs.Ytcofibbgdnbejaa.Mv11
open Go.RowKit Go.Proofs.YtcofibbgdnbejaaW.PrintWords Go.Proofs.YtcofibbgdnbejaaW.PrintLast Go.Proofs.YtcofibbgdnbejaaW.PrintMore Go.Proofs.Ytcofibbgdnbejaa.Ints Go.Proofs.Ytcofibbgdnbejaa.Mv1 Go.Proofs.Ytcofibbgdnbejaa.Mv2 Go.Proofs.Ytcofibbgdnbejaa.Mv10
set_option linter.unusedVariables false
set_option linter.unusedSimpArgs false
theorem C_map {α : Type} {t : α → Rt} {w : World} {A : Option Addr} {n : Nat} {xs : List α} (h : Kd.C (Kd.iso kdp t) w A n xs) : Kd.C kdp w A n (xs.map t) := by
  obtain ⟨h1, h2, h3⟩ := h
  refine ⟨by simpa using h1, h2, fun hp => ?_⟩
  obtain ⟨ad, e, hc⟩ := h3 hp
  refine ⟨ad, e, fun j p hj => ?_⟩
  rw [List.getElem?_map] at hj
  obtain ⟨x, hx, rfl⟩ := Option.map_eq_some_iff.1 hj
  exact hc j x hx
def rr (rs : List Rt) (i : Int) : Rt := rs.getD i.toNat (0, [])
theorem at_R {w : World} {A : Option Addr} {n : Nat} {xs : List Rt} (h : Kd.C kdp w A n xs) (i : Int) (h0 : 0 ≤ i) (h1 : i < n) : ∃ ad A1 c1, A = some ad ∧ w.cell? (ad.add (i.toNat * 2)) = some (.int .i64 (rr xs i).1) ∧ w.cell? ⟨(ad.add (i.toNat * 2)).block, (ad.add (i.toNat * 2)).off + 1, none⟩ = some (.slice A1 (rr xs i).2.length c1) ∧ CI w A1 (rr xs i).2 := by
  obtain ⟨ad, c, e, _, hK, hc0⟩ := Kd.C_get h ((0, []) : Rt) i h0 h1
  have hc : ∀ j u, c[j]? = some u → w.cell? (ad.add (i.toNat * 2 + j)) = some u := hc0
  obtain ⟨_, _, rfl, rfl, ⟨A1, c1, rfl, l1, g1⟩⟩ := hK
  exact ⟨ad, A1, c1, e, hc 0 _ rfl, by rw [← add_field _ _ 1 (by omega)]; exact hc 1 _ rfl, g1⟩
set_option maxHeartbeats 8000000 in
set_option maxRecDepth 100000 in
theorem cl_n (a b : Int) (A : Option Addr) (c : Nat) (x : List Int) (B : Option Addr) (d : Nat) (y : List Int) (w : World) (hx : CI w A x) (hy : CI w B y) (h : ¬ a = b) : Calls Try.prog 25 #[.agg #[.int .i64 a, .slice A x.length c], .agg #[.int .i64 b, .slice B y.length d]] w fun e w' => e = .returned (.bool (decide (a = b ∧ x = y))) ∧ Below w.heap.size w w' := by
  have e : decide (a = b ∧ x = y) = false := decide_eq_false (fun e => h e.1)
  rw [e]
  have q1 : (a == b) = false := beq_eq_false_iff_ne.mpr h
  replace h := eq_false h
  clear e hx hy
  go_enter Try.func25, Try.ntmps25
  go_wp2_with (first | ((with_reducible refine gate_dst (N := 2) rfl ?_); refine box_event ?hg (N := 2) ?hd (cs := #[.int .i64 a, .slice A x.length c]) (t := 35) ?hr ?_; (case hd => rfl); (case hg => rfl); (case hr => first | (go_simp; done) | (go_simp; rfl)); intro gp hg_ wv hbox hb; have HB := Aside0.mk hb; have Bp := Aside0.mk hbox; clear hbox hg_ hb) | ((with_reducible refine gate_dst (N := 3) rfl ?_); refine box_event ?hg (N := 3) ?hd (cs := #[.int .i64 b, .slice B y.length d]) (t := 35) ?hr ?_; (case hd => rfl); (case hg => rfl); (case hr => first | (go_simp; done) | (go_simp; rfl)); intro gq hg_ wv hbox hb; replace Bp := Aside0.mk (blk_below Bp.out hb); replace HB := Aside0.mk (below_step HB.out hb); have Bq := Aside0.mk hbox; clear hbox hg_ hb; have h1 : wv.cell? ⟨gp, 0, none⟩ = some (.int .i64 a) := (blk_cell Bp.out 0).trans rfl; have h2 : wv.cell? ⟨gp, 1, none⟩ = some (.slice A x.length c) := (blk_cell Bp.out 1).trans rfl; have h3 : wv.cell? ⟨gq, 0, none⟩ = some (.int .i64 b) := (blk_cell Bq.out 0).trans rfl; have h4 : wv.cell? ⟨gq, 1, none⟩ = some (.slice B y.length d) := (blk_cell Bq.out 1).trans rfl))
  first | go_ret | go_ret2
  exact ⟨rfl, HB.out⟩
set_option maxHeartbeats 8000000 in
set_option maxRecDepth 100000 in
theorem cl_y (a b : Int) (A : Option Addr) (c : Nat) (x : List Int) (B : Option Addr) (d : Nat) (y : List Int) (w : World) (hx : CI w A x) (hy : CI w B y) (h : a = b) : Calls Try.prog 25 #[.agg #[.int .i64 a, .slice A x.length c], .agg #[.int .i64 b, .slice B y.length d]] w fun e w' => e = .returned (.bool (decide (a = b ∧ x = y))) ∧ Below w.heap.size w w' := by
  obtain ⟨r, hr⟩ : ∃ r, decide (x = y) = r := ⟨_, rfl⟩
  have e : decide (a = b ∧ x = y) = r := by rw [← hr]; simp [h]
  rw [e]
  have HX := Aside0.mk hx
  have HY := Aside0.mk hy
  have HR := Aside0.mk hr
  have q1 : (a == b) = true := beq_iff_eq.mpr h
  replace h := eq_true h
  clear e hx hy hr
  go_enter Try.func25, Try.ntmps25
  go_wp2_with (first | ((with_reducible refine gate_dst (N := 2) rfl ?_); refine box_event ?hg (N := 2) ?hd (cs := #[.int .i64 a, .slice A x.length c]) (t := 35) ?hr ?_; (case hd => rfl); (case hg => rfl); (case hr => first | (go_simp; done) | (go_simp; rfl)); intro gp hg_ wv hbox hb; have HB := Aside0.mk hb; have Bp := Aside0.mk hbox; clear hbox hg_ hb) | ((with_reducible refine gate_dst (N := 3) rfl ?_); refine box_event ?hg (N := 3) ?hd (cs := #[.int .i64 b, .slice B y.length d]) (t := 35) ?hr ?_; (case hd => rfl); (case hg => rfl); (case hr => first | (go_simp; done) | (go_simp; rfl)); intro gq hg_ wv hbox hb; replace Bp := Aside0.mk (blk_below Bp.out hb); replace HB := Aside0.mk (below_step HB.out hb); have Bq := Aside0.mk hbox; clear hbox hg_ hb; have h1 : wv.cell? ⟨gp, 0, none⟩ = some (.int .i64 a) := (blk_cell Bp.out 0).trans rfl; have h2 : wv.cell? ⟨gp, 1, none⟩ = some (.slice A x.length c) := (blk_cell Bp.out 1).trans rfl; have h3 : wv.cell? ⟨gq, 0, none⟩ = some (.int .i64 b) := (blk_cell Bq.out 0).trans rfl; have h4 : wv.cell? ⟨gq, 1, none⟩ = some (.slice B y.length d) := (blk_cell Bq.out 1).trans rfl) | (go_at_call 26; (with_reducible refine (eq_ A c x B d y _ (Kd.C_below HX.out HB.out) (Kd.C_below HY.out HB.out)).mono ?_); rintro e wv ⟨rfl, hb⟩; rw [HR.out]; clear h1 h2 h3 h4; replace HB := Aside0.mk (below_step HB.out hb); clear hb))
  first | go_ret | go_ret2
  exact ⟨rfl, HB.out⟩
theorem cl_ (a b : Int) (A : Option Addr) (c : Nat) (x : List Int) (B : Option Addr) (d : Nat) (y : List Int) (w : World) (hx : CI w A x) (hy : CI w B y) : Calls Try.prog 25 #[.agg #[.int .i64 a, .slice A x.length c], .agg #[.int .i64 b, .slice B y.length d]] w fun e w' => e = .returned (.bool (decide (a = b ∧ x = y))) ∧ Below w.heap.size w w' := by
  by_cases h : a = b
  · exact cl_y a b A c x B d y w hx hy h
  · exact cl_n a b A c x B d y w hx hy h
end Go.Proofs.Ytcofibbgdnbejaa.Mv11
