/- Written by a program of this session: Go functions that the law BookTighter reaches, as Lean functions, each with a proof that the Go code comes to just what it says; every input of the kinds that a contract names. -/
import Derived.Test.YtmeeaaplhajaeaaRows
import Derived.Test.YtmeeaaplhajaeaaMBookTighterx4
import Derived.Test.YtmeeaaplhajaeaaPureBookTighter
import Derived.Test.YtmeeaaplhajaeaaRdd
import Derived.WalkKit
import Derived.ProofKit
import Derived.OpenShut
import Derived.ShutString
import Derived.ChangeOld
import Derived.Below
import Derived.SizedLaws
import Derived.WideShapes
import Derived.Test.YtmeeaaplhajaeaaWSized
namespace Go.Proofs.Ytmeeaaplhajaeaa.bookTighter
open Go.ChangeShapes Go.WideShapes Go.ChangeAt Go.RowKit
open Go.ChangeMaps (open_string shut_string)
open Go.Proofs.YtmeeaaplhajaeaaW.PrintWords Go.Proofs.YtmeeaaplhajaeaaRdd Go.Proofs.Ytmeeaaplhajaeaa.MBookTighter
set_option linter.unusedVariables false
theorem own : ownKnob Try.prog.godebug = none := by kernel_rfl
theorem laidOut : laidOutB Try.prog = true := by kernel_rfl
theorem rdd_T23 : Rdd Try.prog 23 k23 OK23 := Rdd.mono (Rdd.iso (Rdd.struct Try.underlying23 (by kernel_rfl) rfl (RS.cons rfl (by kernel_rfl) (Rdd.int Try.underlying3) rfl (RS.cons rfl (by kernel_rfl) (Rdd.int Try.underlying3) rfl (RS.cons rfl (by kernel_rfl) (Rdd.int Try.underlying3) rfl (RS.cons rfl (by kernel_rfl) (Rdd.int Try.underlying3) rfl (RS.cons rfl (by kernel_rfl) (Rdd.int Try.underlying3) rfl (RS.cons rfl (by kernel_rfl) (Rdd.int Try.underlying3) rfl (RS.cons rfl (by kernel_rfl) (Rdd.int Try.underlying3) rfl (RS.cons rfl (by kernel_rfl) (Rdd.int Try.underlying3) rfl (RS.cons rfl (by kernel_rfl) (Rdd.int Try.underlying3) rfl (RS.cons rfl (by kernel_rfl) (Rdd.int Try.underlying3) rfl (RS.cons rfl (by kernel_rfl) (Rdd.int Try.underlying3) rfl (RS.cons rfl (by kernel_rfl) (Rdd.int Try.underlying3) rfl (RS.cons rfl (by kernel_rfl) (Rdd.int Try.underlying3) rfl (RS.cons rfl (by kernel_rfl) (Rdd.int Try.underlying3) rfl (RS.cons rfl (by kernel_rfl) (Rdd.int Try.underlying3) rfl (RS.cons rfl (by kernel_rfl) (Rdd.int Try.underlying3) rfl (RS.cons rfl (by kernel_rfl) (Rdd.int Try.underlying3) rfl (RS.cons rfl (by kernel_rfl) (Rdd.int Try.underlying3) rfl (RS.one rfl (by kernel_rfl) (Rdd.int Try.underlying3))))))))))))))))))))) (fun x : S23 => (x.f0, x.f1, x.f2, x.f3, x.f4, x.f5, x.f6, x.f7, x.f8, x.f9, x.f10, x.f11, x.f12, x.f13, x.f14, x.f15, x.f16, x.f17, x.f18)) (fun p => ⟨p.1, p.2.1, p.2.2.1, p.2.2.2.1, p.2.2.2.2.1, p.2.2.2.2.2.1, p.2.2.2.2.2.2.1, p.2.2.2.2.2.2.2.1, p.2.2.2.2.2.2.2.2.1, p.2.2.2.2.2.2.2.2.2.1, p.2.2.2.2.2.2.2.2.2.2.1, p.2.2.2.2.2.2.2.2.2.2.2.1, p.2.2.2.2.2.2.2.2.2.2.2.2.1, p.2.2.2.2.2.2.2.2.2.2.2.2.2.1, p.2.2.2.2.2.2.2.2.2.2.2.2.2.2.1, p.2.2.2.2.2.2.2.2.2.2.2.2.2.2.2.1, p.2.2.2.2.2.2.2.2.2.2.2.2.2.2.2.2.1, p.2.2.2.2.2.2.2.2.2.2.2.2.2.2.2.2.2.1, p.2.2.2.2.2.2.2.2.2.2.2.2.2.2.2.2.2.2⟩) (fun _ => rfl)) (fun _ h => h)
set_option maxRecDepth 100000 in
set_option maxHeartbeats 8000000 in
theorem lifted (os : Os) (started : os.Started) (H : Type) (enc : TypeId × Value → H) :
    ReturnsInHanded {} Try.checked os 5 .any (Rows.bookTighterSpec.pre6 enc Try.prog Try.f5 Rows.bookTighterRow.domain false) (Rows.bookTighterSpec.post enc Try.prog Try.f5 false true false false) := by
  refine returnsInHanded_of_change_sized (C := Try.checked) own started (by kernel_rfl) Try.func5
    (ChangeSpec.witness6 (enc := enc) (C := Try.checked) false ⟨#[], #[.agg #[.int .i64 0, .int .i64 0, .int .i64 0, .int .i64 0, .int .i64 0, .int .i64 0, .int .i64 0, .int .i64 0, .int .i64 0, .int .i64 0, .int .i64 0, .int .i64 0, .int .i64 0, .int .i64 0, .int .i64 0, .int .i64 0, .int .i64 0, .int .i64 0, .int .i64 0], .agg #[.int .i64 0, .int .i64 0, .int .i64 0, .int .i64 0, .int .i64 0, .int .i64 0, .int .i64 0, .int .i64 0, .int .i64 0, .int .i64 0, .int .i64 0, .int .i64 0, .int .i64 0, .int .i64 0, .int .i64 0, .int .i64 0, .int .i64 0, .int .i64 0, .int .i64 0], .agg #[.int .i64 0, .int .i64 0, .int .i64 0, .int .i64 0, .int .i64 0, .int .i64 0, .int .i64 0, .int .i64 0, .int .i64 0, .int .i64 0, .int .i64 0, .int .i64 0, .int .i64 0, .int .i64 0, .int .i64 0, .int .i64 0, .int .i64 0, .int .i64 0, .int .i64 0]], []⟩ 8 (by kernel_rfl) (by kernel_rfl) (by kernel_rfl) (by kernel_rfl)) ?_
  intro W base args ds gs before hval0 hW hcnd hsz0 _
  have hsz : (DataW.weightsEach Try.prog (Try.f5.params.toList ++ Rows.bookTighterSpec.plain.varTypes Try.prog) (ds ++ gs)).all (· ≤ reachBytes) = true := hsz0
  have hval : ∀ (j : Nat) t v, Try.f5.params[j]? = some t → args[j]? = some v → Value.okWide Try.prog W .any base t v := hval0
  have hW' := hW
  obtain ⟨p, q, hA0, hV, rfl, hfz, hnd⟩ := hW
  have hA : DataW.TrodAll enc Try.prog W 0 (fun _ => true) true Try.f5.params.toList args.toList ds p := hA0
  rw [Try.params5] at hA hval hsz
  obtain ⟨v0, vs0, d0, ds0, p0, q0, hargs, rfl, rfl, h0, r0⟩ := trodAll_cons hA
  obtain ⟨v1, vs1, d1, ds1, p1, q1, rfl, rfl, rfl, h1, r1⟩ := trodAll_cons r0
  obtain ⟨v2, vs2, d2, ds2, p2, q2, rfl, rfl, rfl, h2, r2⟩ := trodAll_cons r1
  obtain ⟨rfl, rfl, rfl⟩ := trodAll_nil r2
  obtain rfl : args = #[v0, v1, v2] := by cases args; simp_all
  obtain ⟨rfl, rfl⟩ := trodVars_none hV
  obtain ⟨cs0, rfl, _⟩ := okWide_struct Try.underlying23 (hval 0 23 v0 rfl rfl)
  have k0 := h0
  have lt0 : ∀ x ∈ p0, x.block < W.heap.size := by obtain ⟨m, hm⟩ := k0; exact DataW.trod_lt m _ _ _ hm
  obtain ⟨x0, hK0, ho0⟩ := in_agg rdd_T23 h0
  have e0 := k23_open hK0
  obtain rfl : cs0 = #[.int .i64 x0.f0, .int .i64 x0.f1, .int .i64 x0.f2, .int .i64 x0.f3, .int .i64 x0.f4, .int .i64 x0.f5, .int .i64 x0.f6, .int .i64 x0.f7, .int .i64 x0.f8, .int .i64 x0.f9, .int .i64 x0.f10, .int .i64 x0.f11, .int .i64 x0.f12, .int .i64 x0.f13, .int .i64 x0.f14, .int .i64 x0.f15, .int .i64 x0.f16, .int .i64 x0.f17, .int .i64 x0.f18] := by rw [← Array.toList_inj]; exact e0
  obtain ⟨cs1, rfl, _⟩ := okWide_struct Try.underlying23 (hval 1 23 v1 rfl rfl)
  have k1 := h1
  have lt1 : ∀ x ∈ p1, x.block < W.heap.size := by obtain ⟨m, hm⟩ := k1; exact DataW.trod_lt m _ _ _ hm
  obtain ⟨x1, hK1, ho1⟩ := in_agg rdd_T23 h1
  have e1 := k23_open hK1
  obtain rfl : cs1 = #[.int .i64 x1.f0, .int .i64 x1.f1, .int .i64 x1.f2, .int .i64 x1.f3, .int .i64 x1.f4, .int .i64 x1.f5, .int .i64 x1.f6, .int .i64 x1.f7, .int .i64 x1.f8, .int .i64 x1.f9, .int .i64 x1.f10, .int .i64 x1.f11, .int .i64 x1.f12, .int .i64 x1.f13, .int .i64 x1.f14, .int .i64 x1.f15, .int .i64 x1.f16, .int .i64 x1.f17, .int .i64 x1.f18] := by rw [← Array.toList_inj]; exact e1
  obtain ⟨cs2, rfl, _⟩ := okWide_struct Try.underlying23 (hval 2 23 v2 rfl rfl)
  have k2 := h2
  have lt2 : ∀ x ∈ p2, x.block < W.heap.size := by obtain ⟨m, hm⟩ := k2; exact DataW.trod_lt m _ _ _ hm
  obtain ⟨x2, hK2, ho2⟩ := in_agg rdd_T23 h2
  have e2 := k23_open hK2
  obtain rfl : cs2 = #[.int .i64 x2.f0, .int .i64 x2.f1, .int .i64 x2.f2, .int .i64 x2.f3, .int .i64 x2.f4, .int .i64 x2.f5, .int .i64 x2.f6, .int .i64 x2.f7, .int .i64 x2.f8, .int .i64 x2.f9, .int .i64 x2.f10, .int .i64 x2.f11, .int .i64 x2.f12, .int .i64 x2.f13, .int .i64 x2.f14, .int .i64 x2.f15, .int .i64 x2.f16, .int .i64 x2.f17, .int .i64 x2.f18] := by rw [← Array.toList_inj]; exact e2
  clear hA0 hval0 hsz0 hsz
  obtain ⟨k, hp⟩ := Pure.BookTighter x0.f0 x0.f1 x0.f2 x0.f3 x0.f4 x0.f5 x0.f6 x0.f7 x0.f8 x0.f9 x0.f10 x0.f11 x0.f12 x0.f13 x0.f14 x0.f15 x0.f16 x0.f17 x0.f18 x1.f0 x1.f1 x1.f2 x1.f3 x1.f4 x1.f5 x1.f6 x1.f7 x1.f8 x1.f9 x1.f10 x1.f11 x1.f12 x1.f13 x1.f14 x1.f15 x1.f16 x1.f17 x1.f18 x2.f0 x2.f1 x2.f2 x2.f3 x2.f4 x2.f5 x2.f6 x2.f7 x2.f8 x2.f9 x2.f10 x2.f11 x2.f12 x2.f13 x2.f14 x2.f15 x2.f16 x2.f17 x2.f18 ho0.1 ho0.2.1 ho0.2.2.1 ho0.2.2.2.1 ho0.2.2.2.2.1 ho0.2.2.2.2.2.1 ho0.2.2.2.2.2.2.1 ho0.2.2.2.2.2.2.2.1 ho0.2.2.2.2.2.2.2.2.1 ho0.2.2.2.2.2.2.2.2.2.1 ho0.2.2.2.2.2.2.2.2.2.2.1 ho0.2.2.2.2.2.2.2.2.2.2.2.1 ho0.2.2.2.2.2.2.2.2.2.2.2.2.1 ho0.2.2.2.2.2.2.2.2.2.2.2.2.2.1 ho0.2.2.2.2.2.2.2.2.2.2.2.2.2.2.1 ho0.2.2.2.2.2.2.2.2.2.2.2.2.2.2.2.1 ho0.2.2.2.2.2.2.2.2.2.2.2.2.2.2.2.2.1 ho0.2.2.2.2.2.2.2.2.2.2.2.2.2.2.2.2.2.1 ho0.2.2.2.2.2.2.2.2.2.2.2.2.2.2.2.2.2.2 ho1.1 ho1.2.1 ho1.2.2.1 ho1.2.2.2.1 ho1.2.2.2.2.1 ho1.2.2.2.2.2.1 ho1.2.2.2.2.2.2.1 ho1.2.2.2.2.2.2.2.1 ho1.2.2.2.2.2.2.2.2.1 ho1.2.2.2.2.2.2.2.2.2.1 ho1.2.2.2.2.2.2.2.2.2.2.1 ho1.2.2.2.2.2.2.2.2.2.2.2.1 ho1.2.2.2.2.2.2.2.2.2.2.2.2.1 ho1.2.2.2.2.2.2.2.2.2.2.2.2.2.1 ho1.2.2.2.2.2.2.2.2.2.2.2.2.2.2.1 ho1.2.2.2.2.2.2.2.2.2.2.2.2.2.2.2.1 ho1.2.2.2.2.2.2.2.2.2.2.2.2.2.2.2.2.1 ho1.2.2.2.2.2.2.2.2.2.2.2.2.2.2.2.2.2.1 ho1.2.2.2.2.2.2.2.2.2.2.2.2.2.2.2.2.2.2 ho2.1 ho2.2.1 ho2.2.2.1 ho2.2.2.2.1 ho2.2.2.2.2.1 ho2.2.2.2.2.2.1 ho2.2.2.2.2.2.2.1 ho2.2.2.2.2.2.2.2.1 ho2.2.2.2.2.2.2.2.2.1 ho2.2.2.2.2.2.2.2.2.2.1 ho2.2.2.2.2.2.2.2.2.2.2.1 ho2.2.2.2.2.2.2.2.2.2.2.2.1 ho2.2.2.2.2.2.2.2.2.2.2.2.2.1 ho2.2.2.2.2.2.2.2.2.2.2.2.2.2.1 ho2.2.2.2.2.2.2.2.2.2.2.2.2.2.2.1 ho2.2.2.2.2.2.2.2.2.2.2.2.2.2.2.2.1 ho2.2.2.2.2.2.2.2.2.2.2.2.2.2.2.2.2.1 ho2.2.2.2.2.2.2.2.2.2.2.2.2.2.2.2.2.2.1 ho2.2.2.2.2.2.2.2.2.2.2.2.2.2.2.2.2.2.2
  refine (haulierlaw07_BookTighter.calls k x0.f0 x0.f1 x0.f2 x0.f3 x0.f4 x0.f5 x0.f6 x0.f7 x0.f8 x0.f9 x0.f10 x0.f11 x0.f12 x0.f13 x0.f14 x0.f15 x0.f16 x0.f17 x0.f18 x1.f0 x1.f1 x1.f2 x1.f3 x1.f4 x1.f5 x1.f6 x1.f7 x1.f8 x1.f9 x1.f10 x1.f11 x1.f12 x1.f13 x1.f14 x1.f15 x1.f16 x1.f17 x1.f18 x2.f0 x2.f1 x2.f2 x2.f3 x2.f4 x2.f5 x2.f6 x2.f7 x2.f8 x2.f9 x2.f10 x2.f11 x2.f12 x2.f13 x2.f14 x2.f15 x2.f16 x2.f17 x2.f18 true W  hp).mono fun e W' ⟨he, bel0⟩ => ?_
  have bel : Below W.heap.size W W' := bel0
  subst he
  exact ⟨_, rfl, _, _, _, [], _, [], hW', trodAll_mk1 (shut_bool Try.underlying4 _), (trodAll_cons_mk (Below.trod laidOut (by kernel_rfl) (of_decide_eq_true (by kernel_rfl)) k0 bel lt0) (trodAll_cons_mk (Below.trod laidOut (by kernel_rfl) (of_decide_eq_true (by kernel_rfl)) k1 bel lt1) (trodAll_cons_mk (Below.trod laidOut (by kernel_rfl) (of_decide_eq_true (by kernel_rfl)) k2 bel lt2) trodAll_mk0))), rfl, bel.frame _, fun h => by cases h⟩
theorem over : Rows.bookTighterRow.holds Try.pinned (OpenSpec.ofChange Rows.bookTighterSpec) :=
  OpenClaim.holds_of_wide 5 Try.f5 rfl rfl rfl rfl rfl rfl rfl ⟨rfl, rfl, rfl, rfl, rfl⟩ rfl rfl rfl rfl rfl (by kernel_rfl) Try.func5 (by kernel_rfl)
    (of_decide_eq_true (by kernel_rfl)) (by unfold Func.isWrapper; first | (rw [if_pos (by decide +kernel)]; kernel_rfl) | (rw [if_neg (by decide +kernel)]; exact ⟨rfl, rfl⟩))
    (fun os started H enc _ => lifted os started H enc)
theorem proved : Rows.BookTighterSaid := over
#print axioms proved
end Go.Proofs.Ytmeeaaplhajaeaa.bookTighter
namespace Go.Proofs.Ytmeeaaplhajaeaa
/-- The row, under a short name, for the claim. -/
theorem bookTighter_holds : Rows.BookTighterSaid := bookTighter.proved
end Go.Proofs.Ytmeeaaplhajaeaa
