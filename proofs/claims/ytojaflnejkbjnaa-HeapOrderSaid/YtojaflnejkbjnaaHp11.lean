/- Equality of items, the law's alive, rows of the reference beside a heap. -/
import Derived.Test.YtojaflnejkbjnaaHp10
namespace Go.Proofs.Ytojaflnejkbjnaa.Hp11
open Go.RowKit Go.Proofs.YtojaflnejkbjnaaW.PrintWords Go.Proofs.YtojaflnejkbjnaaW.PrintLast Go.Proofs.YtojaflnejkbjnaaW.PrintMore Go.Proofs.Ytojaflnejkbjnaa.Hp1 Go.Proofs.Ytojaflnejkbjnaa.Hp2 Go.Proofs.Ytojaflnejkbjnaa.Hp3 Go.Proofs.Ytojaflnejkbjnaa.Hp4 Go.Proofs.Ytojaflnejkbjnaa.Hp5 Go.Proofs.Ytojaflnejkbjnaa.Hp6 Go.Proofs.Ytojaflnejkbjnaa.Hp7 Go.Proofs.Ytojaflnejkbjnaa.Hp8 Go.Proofs.Ytojaflnejkbjnaa.Hp9 Go.Proofs.Ytojaflnejkbjnaa.Hp10
attribute [local go_sem] max2_int min2_int max_two min_two max_three min_three max_four min_four
set_option linter.unusedVariables false
set_option linter.unusedSimpArgs false
theorem eqA33 (d : Nat) (w : World) (x0 x1 x2 y0 y1 y2 : Int) : (Op.equalIn (d + 2) 33 (.agg #[.int .i64 x0, .int .i64 x1, .int .i64 x2]) (.agg #[.int .i64 y0, .int .i64 y1, .int .i64 y2])).run Try.prog w = .ok (x0 == y0 && (x1 == y1 && (x2 == y2))) w := by
  refine eqA_of Try.underlying33 (by kernel_rfl) ?_
  refine eqf_cons (by rfl) (by go_simp; rfl) (by go_simp; rfl) (by go_simp) ?_
  refine eqf_cons (by rfl) (by go_simp; rfl) (by go_simp; rfl) (by go_simp) ?_
  exact eqf_last (by rfl) (by go_simp; rfl) (by go_simp; rfl) (by go_simp)
theorem neq33 (w : World) (x0 x1 x2 y0 y1 y2 : Int) : (binOp .neq 33 (.agg #[.int .i64 x0, .int .i64 x1, .int .i64 x2]) (.agg #[.int .i64 y0, .int .i64 y1, .int .i64 y2])).run Try.prog w = .ok (.bool (!(x0 == y0 && (x1 == y1 && (x2 == y2))))) w := by
  have h : (Op.equalIn Op.maxDepth 33 (.agg #[.int .i64 x0, .int .i64 x1, .int .i64 x2]) (.agg #[.int .i64 y0, .int .i64 y1, .int .i64 y2])).run Try.prog w = .ok (x0 == y0 && (x1 == y1 && (x2 == y2))) w := eqA33 _ w x0 x1 x2 y0 y1 y2
  simp only [binOp, Op.equal, Sem.run_bind, h, Result.andThen_ok, Sem.run_pure]
theorem eql33 (w : World) (x0 x1 x2 y0 y1 y2 : Int) : (binOp .eql 33 (.agg #[.int .i64 x0, .int .i64 x1, .int .i64 x2]) (.agg #[.int .i64 y0, .int .i64 y1, .int .i64 y2])).run Try.prog w = .ok (.bool (x0 == y0 && (x1 == y1 && (x2 == y2)))) w := by
  have h : (Op.equalIn Op.maxDepth 33 (.agg #[.int .i64 x0, .int .i64 x1, .int .i64 x2]) (.agg #[.int .i64 y0, .int .i64 y1, .int .i64 y2])).run Try.prog w = .ok (x0 == y0 && (x1 == y1 && (x2 == y2))) w := eqA33 _ w x0 x1 x2 y0 y1 y2
  simp only [binOp, Op.equal, Sem.run_bind, h, Result.andThen_ok, Sem.run_pure]
theorem eqA32 (d : Nat) (w : World) (x0 x1 x2 y0 y1 y2 : Int) : (Op.equalIn (d + 2) 32 (.agg #[.int .i64 x0, .int .i64 x1, .int .i64 x2]) (.agg #[.int .i64 y0, .int .i64 y1, .int .i64 y2])).run Try.prog w = .ok (x0 == y0 && (x1 == y1 && (x2 == y2))) w := by
  refine eqA_of Try.underlying32 (by kernel_rfl) ?_
  refine eqf_cons (by rfl) (by go_simp; rfl) (by go_simp; rfl) (by go_simp) ?_
  refine eqf_cons (by rfl) (by go_simp; rfl) (by go_simp; rfl) (by go_simp) ?_
  exact eqf_last (by rfl) (by go_simp; rfl) (by go_simp; rfl) (by go_simp)
theorem neq32 (w : World) (x0 x1 x2 y0 y1 y2 : Int) : (binOp .neq 32 (.agg #[.int .i64 x0, .int .i64 x1, .int .i64 x2]) (.agg #[.int .i64 y0, .int .i64 y1, .int .i64 y2])).run Try.prog w = .ok (.bool (!(x0 == y0 && (x1 == y1 && (x2 == y2))))) w := by
  have h : (Op.equalIn Op.maxDepth 32 (.agg #[.int .i64 x0, .int .i64 x1, .int .i64 x2]) (.agg #[.int .i64 y0, .int .i64 y1, .int .i64 y2])).run Try.prog w = .ok (x0 == y0 && (x1 == y1 && (x2 == y2))) w := eqA32 _ w x0 x1 x2 y0 y1 y2
  simp only [binOp, Op.equal, Sem.run_bind, h, Result.andThen_ok, Sem.run_pure]
theorem eql32 (w : World) (x0 x1 x2 y0 y1 y2 : Int) : (binOp .eql 32 (.agg #[.int .i64 x0, .int .i64 x1, .int .i64 x2]) (.agg #[.int .i64 y0, .int .i64 y1, .int .i64 y2])).run Try.prog w = .ok (.bool (x0 == y0 && (x1 == y1 && (x2 == y2)))) w := by
  have h : (Op.equalIn Op.maxDepth 32 (.agg #[.int .i64 x0, .int .i64 x1, .int .i64 x2]) (.agg #[.int .i64 y0, .int .i64 y1, .int .i64 y2])).run Try.prog w = .ok (x0 == y0 && (x1 == y1 && (x2 == y2))) w := eqA32 _ w x0 x1 x2 y0 y1 y2
  simp only [binOp, Op.equal, Sem.run_bind, h, Result.andThen_ok, Sem.run_pure]
theorem new_n (A : Option Addr) (c n : Nat) (xs : List It) (hn : n = xs.length) (hl : n ≤ 1000000) (w : World) (hr : Kd.C kdi w A xs.length xs) : Calls Try.prog 7 #[.slice A n c] w fun e w' => ∃ b v, e = .returned (.pointer (some ⟨b, 0, none⟩)) ∧ IsH w' w.heap.size b v (iniL n (n / 2) xs) ∧ Below w.heap.size w w' := by
  subst hn
  exact new_ A c xs hl w hr
theorem alive_first : 0 < (iniL 3 (3 / 2) [(5, 0, 0), (2, 0, 0), (9, 0, 0)]).length ∧ ri (iniL 3 (3 / 2) [(5, 0, 0), (2, 0, 0), (9, 0, 0)]) 0 = (2, 0, 0) := by
  have h := HS.new [(5, 0, 0), (2, 0, 0), (9, 0, 0)]
  rw [show isort [(5, 0, 0), (2, 0, 0), (9, 0, 0)] = [(2, 0, 0), (5, 0, 0), (9, 0, 0)] by decide] at h
  exact h.first
set_option maxHeartbeats 8000000 in
set_option maxRecDepth 100000 in
theorem alive_ (w : World) : Calls Try.prog 6 #[] w fun e w' => e = .returned (.bool true) ∧ Below w.heap.size w w' := by
  have HB := Aside0.mk (Below.refl w.heap.size w)
  have ALV := Aside0.mk alive_first
  go_enter Try.func6, Try.ntmps6
  go_wp2_with (first | ((with_reducible refine gate_dst (N := 7) rfl ?_); refine Kd.R_lit kdi (w0 := w) w.heap.size 33 ?hg (N := 7) ?hd (xs := ([(5, 0, 0), (2, 0, 0), (9, 0, 0)] : List It)) (inner := [.int .i64 5, .int .i64 0, .int .i64 0, .int .i64 2, .int .i64 0, .int .i64 0, .int .i64 9, .int .i64 0, .int .i64 0]) (ok := fun _ => True) (okp := fun _ => True) ?hr ?hp (fun _ hk => hk) trivial HB.out (below_size HB.out) (by simp) ?_; (case hd => rfl); (case hg => rfl); (case hr => first | (go_simp; done) | (go_simp; rfl)); (case hp => exact Reps.c3 (kdi_mk _ _ _ (5, 0, 0)) (Reps.c3 (kdi_mk _ _ _ (2, 0, 0)) (Reps.c3 (kdi_mk _ _ _ (9, 0, 0)) (Reps.none _ _)))); intro v1 w1 ho hb hg hat; have HO := Aside0.mk ho; replace HB := Aside0.mk hb; clear ho hb hg hat; obtain ⟨A1, c1, e1⟩ := Kd.R_slice HO.out; subst e1) | (go_at_call 7; (with_reducible refine (new_n A1 c1 3 [(5, 0, 0), (2, 0, 0), (9, 0, 0)] rfl (by omega) _ (Kd.R_reads' HO.out).2.2).mono ?_); rintro e wv ⟨b, v, rfl, hi, hb⟩; obtain ⟨B1, HH⟩ : ∃ B1, Aside0 (IsH wv B1 b v (iniL 3 (3 / 2) [(5, 0, 0), (2, 0, 0), (9, 0, 0)])) := ⟨_, ⟨hi⟩⟩; replace HB := Aside0.mk (below_step HB.out hb); clear hi hb HO) | (go_at_call 15; (with_reducible refine (peek_y B1 b v _ 2 0 0 ALV.out.1 ALV.out.2 _ HH.out).mono ?_); rintro e wv ⟨rfl, hb⟩; replace HB := Aside0.mk (below_step HB.out hb); clear hb HH) | ((with_reducible refine gate_dst (N := 1) rfl ?_); refine box_event ?hg (N := 1) ?hd (cs := #[.int .i64 0, .int .i64 0, .int .i64 0]) (t := 33) ?hr ?_; (case hd => rfl); (case hg => rfl); (case hr => first | (go_simp; done) | (go_simp; rfl)); intro g1 hg_ wv hbox hb; have G1 := Aside0.mk (Nat.le_trans (below_size HB.out) (Nat.le_of_eq hg_.symm)); have BX := Aside0.mk hbox; replace HB := Aside0.mk (below_step HB.out hb); clear hbox hg_ hb) | ((with_reducible refine gate_store (t := 33) (p := 1) rfl ?_); refine wpList_store_row rfl 33 _ _ rfl g1 #[.int .i64 2, .int .i64 0, .int .i64 0] rfl rfl 33 #[.int .i64 0, .int .i64 0, .int .i64 0] BX.out (by kernel_rfl) rfl (by simp [Value.oneCell']) ?_; replace HB := Aside0.mk (below_setRow HB.out G1.out #[.int .i64 2, .int .i64 0, .int .i64 0]); replace BX := Aside0.mk (setRow_heap _ _ _ #[.int .i64 2, .int .i64 0, .int .i64 0] _ _ BX.out); generalize wv.setRow g1 #[.int .i64 2, .int .i64 0, .int .i64 0] = wv at HB BX ⊢; have hc0 : wv.cell? ⟨g1, 0, none⟩ = some (.int .i64 2) := (blk_cell BX.out 0).trans rfl))
  first | go_ret | go_ret2
  exact ⟨rfl, HB.out⟩
/-- Items of the reference, at an address of a block of theirs. -/
def XA (w : World) (A : Option Addr) (xs : List It) : Prop := Kd.C kdi w A xs.length xs ∧ ∀ ad, A = some ad → 0 < xs.length → ∃ cells, w.heap[ad.block]? = some (.cells cells 32 (0, 0))
theorem XA.below {w w1 : World} {A : Option Addr} {xs : List It} (h : XA w A xs) (hb : Below w.heap.size w w1) : XA w1 A xs :=
  ⟨Kd.C_below h.1 hb, fun ad e hp => by obtain ⟨cells, hc⟩ := h.2 ad e hp; exact ⟨cells, blk_below hc hb⟩⟩
theorem add_block (ad : Addr) (j : Nat) : (ad.add j).block = ad.block := by
  unfold Addr.add
  split <;> rfl
theorem XA.at_ {w w1 : World} {A : Option Addr} {xs : List It} (h : XA w A xs) (hk : ∀ ad, A = some ad → 0 < xs.length → w1.heap[ad.block]? = w.heap[ad.block]?) : XA w1 A xs := by
  obtain ⟨⟨h1, h2, h3⟩, h4⟩ := h
  refine ⟨⟨h1, h2, fun hp => ?_⟩, fun ad e hp => ?_⟩
  · obtain ⟨ad, e, hc⟩ := h3 hp
    refine ⟨ad, e, fun j p hj => ?_⟩
    obtain ⟨c, hs, hr, hcell⟩ := hc j p hj
    refine ⟨c, hs, ?_, fun i u hu => ?_⟩
    · obtain ⟨_, _, rfl, rfl, ⟨_, _, rfl, rfl, rfl⟩⟩ := hr
      exact ⟨[.int .i64 p.1], [.int .i64 p.2.1, .int .i64 p.2.2], rfl, rfl, ⟨[.int .i64 p.2.1], [.int .i64 p.2.2], rfl, rfl, rfl⟩⟩
    · have e2 : w1.cell? (ad.add (j * kdi.sz + i)) = w.cell? (ad.add (j * kdi.sz + i)) := by
        unfold World.cell?
        rw [add_block, hk ad e hp]
      exact e2.trans (hcell i u hu)
  · rw [hk ad e hp]
    exact h4 ad e hp
theorem XA.hk {w w1 : World} {base b : Nat} {u : Value} {A : Option Addr} {xs ys : List It} (h : XA w A xs) (hH : IsH w base b u ys) (hk : HK w w1 b u) : XA w1 A xs := by
  refine h.at_ (fun ad e hp => ?_)
  obtain ⟨cells, hc⟩ := h.2 ad e hp
  refine hk.block _ (blk_lt hc) (fun e2 => ?_) (fun e2 => ?_)
  · rw [e2, hH.2.1] at hc
    injection hc with hc
    injection hc with _ hc
    exact absurd hc (by decide)
  · obtain ⟨cells2, hc2⟩ := own_typed_ hH.2.2 e2
    rw [hc2] at hc
    injection hc with hc
    injection hc with _ hc
    exact absurd hc (by decide)
theorem XA.setRow {w : World} {A : Option Addr} {xs : List It} (h : XA w A xs) {g : Nat} {old : Array Value} {t : Nat} (hg : w.heap[g]? = some (.cells old t (0, 0))) (ht : t ≠ 32) (cs : Array Value) : XA (w.setRow g cs) A xs := by
  refine h.at_ (fun ad e hp => setRow_other _ _ _ _ (fun e2 => ?_))
  obtain ⟨cells, hc⟩ := h.2 ad e hp
  rw [e2, hg] at hc
  injection hc with hc
  injection hc with _ hc
  exact ht hc
theorem XA.drop1 {w : World} {A : Option Addr} {p : It} {xs : List It} {c : Nat} (h : XA w A (p :: xs)) (hc : (p :: xs).length ≤ c) : XA w (if c = 1 then A else A.map (·.add (1 * 3))) xs := by
  have h1 := Kd.C_drop (m := 1) h.1 (by simp) hc
  refine ⟨h1, fun ad e hp => ?_⟩
  rw [if_neg (by rw [List.length_cons] at hc; omega)] at e
  cases A with
  | none => cases e
  | some a =>
    injection e with e
    subst e
    rw [add_block]
    exact h.2 a rfl (by simp)
theorem C_of_map {β : Type} {f : β → It} {w : World} {A : Option Addr} {n : Nat} {xs : List β} (h : Kd.C kdi w A n (xs.map f)) : Kd.C (Kd.iso kdi f) w A n xs := by
  obtain ⟨h1, h2, h3⟩ := h
  refine ⟨by rw [← h1, List.length_map], h2, fun hp => ?_⟩
  obtain ⟨ad, e, hc⟩ := h3 hp
  exact ⟨ad, e, fun j p hj => hc j (f p) (by rw [List.getElem?_map, hj]; rfl)⟩
theorem C_map {β : Type} {f : β → It} {w : World} {A : Option Addr} {n : Nat} {xs : List β} (h : Kd.C (Kd.iso kdi f) w A n xs) : Kd.C kdi w A n (xs.map f) := by
  obtain ⟨h1, h2, h3⟩ := h
  refine ⟨by rw [← h1, List.length_map], h2, fun hp => ?_⟩
  obtain ⟨ad, e, hc⟩ := h3 hp
  refine ⟨ad, e, fun j p hj => ?_⟩
  rw [List.getElem?_map] at hj
  obtain ⟨q, hq, rfl⟩ := Option.map_eq_some_iff.1 hj
  exact hc j q hq
theorem XA.of_R {β : Type} {f : β → It} {w : World} {base : Nat} {ok : Nat → Prop} {A : Option Addr} {n c : Nat} {xs : List β} (h : Kd.R (Kd.iso kdi f) 32 w base ok (.slice A n c) xs) : XA w A (xs.map f) ∧ n = xs.length ∧ xs.length ≤ c := by
  obtain ⟨h1, h2, h3⟩ := Kd.R_reads' h
  refine ⟨⟨by rw [List.length_map]; exact C_map h3, fun ad e hp => ?_⟩, h1, by omega⟩
  obtain ⟨inner, ho⟩ := Kd.R_own h
  subst e
  exact own_typed ho ad.block rfl
end Go.Proofs.Ytojaflnejkbjnaa.Hp11
