/- The example that stands in each statement of the chapter: draws 3, 0, -1 from which three of five are picked. -/
import Derived.Test.YtabhikacghkcgaaDraw5
import Derived.Test.YtabhikacghkcgaaDraw6
namespace Go.Proofs.Ytabhikacghkcgaa.Draw7
open Go.RowKit Go.Proofs.YtabhikacghkcgaaW.PrintWords Go.Proofs.YtabhikacghkcgaaW.PrintLast Go.Proofs.YtabhikacghkcgaaW.PrintMore Go.Proofs.Ytabhikacghkcgaa.Ints Go.Proofs.Ytabhikacghkcgaa.Draw1 Go.Proofs.Ytabhikacghkcgaa.Draw2 Go.Proofs.Ytabhikacghkcgaa.Draw3
attribute [local go_sem] max2_int min2_int max_two min_two max_three min_three max_four min_four
set_option linter.unusedVariables false
set_option linter.unusedSimpArgs false
theorem CI_blk {w : World} {g : Nat} (xs : List Int) (h : w.heap[g]? = some (.cells (es xs).toArray 3 (0, 0))) (hm : xs.length ≤ 1000000) : CI w (some ⟨g, 0, none⟩) xs := by
  refine Kd.C_of_reads (d := 0) ?_
  refine ⟨rfl, by omega, fun _ => ⟨_, rfl, fun j hj => ?_⟩⟩
  rw [add_plain, cell_of_row w g j _ 3 (0, 0) h]
  simp [es, encs, hj]
theorem below_g {g : Nat} {w0 w w1 : World} (h : Below w0.heap.size w0 w) (hg : w.grownBy w1 (some g)) (hb : w0.heap.size ≤ g) : Below w0.heap.size w0 w1 :=
  h.grown hg (below_size h) (fun k e => by injection e with e; omega)
theorem alive_pick : pickS [3, 0, -1] 0 5 3 = ([3, 0, 4], true, 3) := by decide +kernel
theorem new3 (gl : Nat) (w : World) (h : w.heap[gl]? = some (.cells #[.int .i64 3, .int .i64 0, .int .i64 (-1)] 3 (0, 0))) :
    Calls Try.prog 6 #[.slice (some ⟨gl, 0, none⟩) 3 3] w fun e w' => ∃ g A' c', e = .returned (.pointer (some ⟨g, 0, none⟩)) ∧ IsD w' w.heap.size w'.heap.size g A' c' [3, 0, -1] 0 ∧ Below w.heap.size w w' :=
  new_ (some ⟨gl, 0, none⟩) 3 [3, 0, -1] w (CI_blk [3, 0, -1] h (by decide)) (by decide)
theorem left3 {base top g : Nat} {A : Option Addr} {c : Nat} {w : World} (h : IsD w base top g A c [3, 0, -1] 3) : Calls Try.prog 10 #[.pointer (some ⟨g, 0, none⟩)] w fun e w' => e = .returned (.int .i64 0) ∧ ∃ n, w' = w.drewN n :=
  left_ base top g A c [3, 0, -1] 3 w h
theorem pick3 {base top g : Nat} {A : Option Addr} {c : Nat} {w : World} (h : IsD w base top g A c [3, 0, -1] 0) (ht : top ≤ w.heap.size) : Calls Try.prog 7 #[.pointer (some ⟨g, 0, none⟩), .int .i64 5, .int .i64 3] w fun e w' => ∃ v0_ : Value, e = .returned (.tuple #[v0_, .bool true]) ∧ RI w' w.heap.size (fun _ => True) v0_ [3, 0, 4] ∧ IsD w' base top g A c [3, 0, -1] 3 ∧ w.grownBy w' (some g) :=
  pickM base top g A c [3, 0, -1] 0 5 3 w h ht (.inl (by omega)) _ alive_pick
set_option maxHeartbeats 8000000 in
set_option maxRecDepth 100000 in
theorem alive_ (w : World) : Calls Try.prog 5 #[] w fun e w' => e = .returned (.bool true) ∧ Below w.heap.size w w' := by
  have HB := Aside0.mk (Below.refl w.heap.size w)
  go_enter Try.func5, Try.ntmps5
  go_wp2_with (first | ((with_reducible refine gate_dst (N := 4) rfl ?_); refine lit ?hg (N := 4) ?hd (cs := #[.int .i64 3, .int .i64 0, .int .i64 (-1)]) (e := 3) (n := 3) ?hr ?_; (case hd => rfl); (case hg => rfl); (case hr => first | (go_simp; done) | (go_simp; rfl)); intro gl wv hgl hl hb; have HL := Aside0.mk hl; replace HB := Aside0.mk (below_step HB.out hb); clear hgl hl hb) | (go_at_call 6; (with_reducible refine (new3 gl _ HL.out).mono ?_); rintro e wv ⟨g, A, c, rfl, hd, hb⟩; have HD := Aside0.mk hd; have HGB := Aside0.mk (Nat.le_trans (below_size HB.out) hd.2.1); replace HB := Aside0.mk (below_step HB.out hb); clear hd hb HL) | (go_at_call 7; (with_reducible refine (pick3 HD.out (Nat.le_refl _)).mono ?_); rintro e wv ⟨v0, rfl, ho, hd, hg⟩; replace HB := Aside0.mk (below_g HB.out hg HGB.out); replace HD := Aside0.mk hd; clear hg hd; obtain ⟨g2, cap, hv, _, _, _⟩ := Kd.R_form ho (by decide); subst hv; have hc2 := (Kd.R_reads' ho).2.2; obtain ⟨_, ea, h0⟩ := Kd.at_int hc2 0 (by decide) (by decide); cases ea; obtain ⟨_, ea, h1⟩ := Kd.at_int hc2 1 (by decide) (by decide); cases ea; obtain ⟨_, ea, h2⟩ := Kd.at_int hc2 2 (by decide) (by decide); cases ea; have k0 : wv.cell? ⟨g2, 0, none⟩ = some (.int .i64 3) := (by rw [add_plain] at h0; exact h0); have k1 : wv.cell? ⟨g2, 1, none⟩ = some (.int .i64 0) := (by rw [add_plain] at h1; exact h1); have k2 : wv.cell? ⟨g2, 2, none⟩ = some (.int .i64 4) := (by rw [add_plain] at h2; exact h2); clear h0 h1 h2 hc2 ho) | (go_at_call 10; (with_reducible refine (left3 HD.out).mono ?_); rintro e wv ⟨rfl, nq, rfl⟩; replace HB := Aside0.mk (pw_below_drewN HB.out nq)))
  first | go_ret | go_ret2
  exact ⟨rfl, HB.out⟩
end Go.Proofs.Ytabhikacghkcgaa.Draw7
