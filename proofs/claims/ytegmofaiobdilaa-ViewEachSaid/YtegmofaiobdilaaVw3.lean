/- view.Of: the view of any records, over the contract of record.Check. -/
import Derived.Test.YtegmofaiobdilaaVw2
namespace Go.Proofs.Ytegmofaiobdilaa.Vw3
open Go.RowKit Go.Shelf Go.Proofs.YtegmofaiobdilaaW.PrintWords Go.Proofs.YtegmofaiobdilaaW.PrintLast Go.Proofs.YtegmofaiobdilaaW.PrintMore Go.Proofs.Ytegmofaiobdilaa.Vw1 Go.Proofs.Ytegmofaiobdilaa.Vw2
attribute [local go_sem] Oper.semAt_some
set_option linter.unusedVariables false
set_option linter.unusedSimpArgs false
def letter (k : Int) : UInt8 := if k = 0 then 82 else if k = 1 then 65 else if k = 2 then 87 else 68
def txt (l : List (Int × Int)) : List UInt8 := l.map fun p => letter p.2
theorem txt_snoc (l : List (Int × Int)) (x : Int × Int) : txt (l ++ [x]) = txt l ++ [letter x.2] := by simp [txt]
section
variable (A : Option Addr) (c : Nat) (xs : List Rec) (w : World) (hC : Kd.C kdq w A xs.length xs) (i1 e1 : Int)
  (hchk : ∀ W, Kd.C kdq W A xs.length xs → Calls Try.prog 27 #[.slice A xs.length c] W fun e W' => e = .returned (.tuple #[.int .i64 i1, .int .i64 e1]) ∧ Below W.heap.size W W')
include hC hchk
set_option maxHeartbeats 8000000 in
set_option maxRecDepth 100000 in
theorem of_err (he : ¬ e1 = 0) : Calls Try.prog 13 #[.slice A xs.length c] w fun e w' => e = .returned (.tuple #[.int .i64 0, .string ⟨#[]⟩, .int .i64 e1]) ∧ Below w.heap.size w w' := by
  have h1 := hchk w hC
  have p1 : (e1 = 0) = False := eq_false he
  have p2 : (e1 == 0) = false := beq_eq_false_iff_ne.mpr he
  have p3 : (e1 != 0) = true := by rw [bne, p2]; rfl
  clear hchk hC he
  go_enter Try.func13, Try.ntmps13
  go_wp2_with (go_at_call 27; (with_reducible refine h1.mono ?_); rintro e wv ⟨rfl, hb⟩; have HB := Aside0.mk hb; clear hb h1)
  exact ⟨rfl, _, by first | rfl | kernel_rfl, rfl, HB.out⟩
set_option maxHeartbeats 8000000 in
set_option maxRecDepth 100000 in
theorem of_nil (he : e1 = 0) (hl : xs.length = 0) : Calls Try.prog 13 #[.slice A xs.length c] w fun e w' => e = .returned (.tuple #[.int .i64 0, .string ⟨#[]⟩, .int .i64 0]) ∧ Below w.heap.size w w' := by
  subst he
  have h1 := hchk w hC
  rw [hl] at h1 ⊢
  clear hchk hC hl
  go_enter Try.func13, Try.ntmps13
  go_wp2_with (go_at_call 27; (with_reducible refine h1.mono ?_); rintro e wv ⟨rfl, hb⟩; have HB := Aside0.mk hb; clear hb h1)
  exact ⟨rfl, _, by first | rfl | kernel_rfl, rfl, HB.out⟩
end
def noPanic (Q : Exit → Act → World → Prop) : Exit → Act → World → Prop
  | .panic _, _, _ => False
  | e, a, w => Q e a w
theorem wp_np {P : Program} {c : Code} {Q : Exit → Act → World → Prop} {a : Act} {w : World} (h : c.wp P (noPanic Q) a w) : c.wp P Q a w := wp_mono h (fun e a w h => by cases e <;> first | exact h | exact h.elim)
theorem np_normal {Q : Exit → Act → World → Prop} {a : Act} {w : World} (h : Q .normal a w) : noPanic Q .normal a w := h
theorem own_builder (B b : Nat) : Own (fun (pre : List MK) W => BF B b (Lib.byteCells (txt (pre.map (·.1)))) W) := by
  intro pre W W' row h hg hrow
  have key : ∀ p, Lib.BuilderAtF 57 5 B b p (Lib.byteCells (txt (pre.map (·.1)))) W → Lib.BuilderAtF 57 5 B b p (Lib.byteCells (txt (pre.map (·.1)))) W' := by
    rintro p ⟨hB, v, hb, hown, hne⟩
    have nr : ∀ k o, W.heap[k]? = some o → o.isCells = true → some k ≠ row := by
      intro k o hk ho e
      obtain ⟨o', ho', hc⟩ := hrow k e.symm
      rw [hk] at ho'
      cases ho'
      rw [ho] at hc
      cases hc
    refine ⟨hB, v, ?_, hown.kept hg ?_, hne⟩
    · rw [hg.block b (Array.getElem?_eq_some_iff.1 hb).1 (nr b _ hb rfl)]
      exact hb
    · rcases hown.2 with ⟨rfl, _⟩ | ⟨g, cap, cur, fz, rfl, _, hgb, _⟩
      · exact .inl rfl
      · exact .inr (nr g _ hgb rfl)
  exact h.elim (fun x => .inl (key _ x)) (fun x => .inr (key _ x))
theorem keeps_of_others {b : Nat} {W W' : World} {cs : Array Value} {t : TypeId} {fz : Nat × Nat} (h : Lib.OthersKept 5 (some b) W W') (hb : W.heap[b]? = some (.cells cs t fz)) (hs : W.heap.size ≤ W'.heap.size) : KeepsOthers W W' :=
  ⟨hs, fun k o hk ho => h k o hk (fun e => by injection e with e; subst e; rw [hb] at hk; cases hk; cases ho) (fun c fz e => by subst e; cases ho)⟩
theorem kr_of_others {n₀ b : Nat} {W W' : World} {cs : Array Value} (h : Lib.OthersKept 5 (some b) W W') (hb : W.heap[b]? = some (.cells cs 57 (0, 0))) (hB : Below n₀ W W') : Kr n₀ W W' :=
  ⟨hB, fun k c t ht hk => h k _ hk (fun e => by injection e with e; subst e; rw [hb] at hk; cases hk; rcases ht with ht | ht <;> exact absurd ht (by decide)) (fun c' fz e => by cases e; rcases ht with ht | ht <;> exact absurd ht (by decide))⟩
theorem bf_cells {B b : Nat} {bs : List Value} {W : World} (h : BF B b bs W) : ∃ cs, W.heap[b]? = some (.cells cs 57 (0, 0)) := by
  rcases h with ⟨_, v, hb, _⟩ | ⟨_, v, hb, _⟩
  · exact ⟨_, hb⟩
  · exact ⟨_, hb⟩
theorem kr_b {n₀ : Nat} {w : World} (hn : n₀ ≤ w.heap.size) (W : World) (l : Nat) (o o' : Obj) (hl : w.heap.size ≤ l) (h : W.heap[l]? = some o) (hc : o.isCells = false) (hw : o.isWalk = false) : Kr n₀ W (W.putObj l o') :=
  ⟨belowK_b hn W l o o' hl h hc hw, fun k c t ht hk => by
    have hne : k ≠ l := fun e => by subst e; rw [h] at hk; cases hk; cases hc
    exact (World.putObj_heap_other hne).trans hk⟩
section
variable (A : Option Addr) (c : Nat) (xs : List Rec) (w : World) (hC : Kd.C kdq w A xs.length xs) (i1 : Int)
  (hchk : ∀ W, Kd.C kdq W A xs.length xs → Calls Try.prog 27 #[.slice A xs.length c] W fun e W' => e = .returned (.tuple #[.int .i64 i1, .int .i64 0]) ∧ Below W.heap.size W W')
  (hk : ∀ r ∈ xs, 0 ≤ r.1 ∧ r.1 < 4 ∧ 0 ≤ r.2.1 ∧ r.2.1 < r.2.2 ∧ r.2.2 ≤ 40320) (hm : (mins xs).length ≤ 1000000) (hl : 0 < xs.length)
include hC hchk hk hm hl
set_option maxHeartbeats 8000000 in
set_option maxRecDepth 100000 in
theorem of_yes : Calls Try.prog 13 #[.slice A xs.length c] w fun e w' => e = .returned (.tuple #[.int .i64 (rq xs 0).2.1, .string ⟨(txt (mins xs)).toArray⟩, .int .i64 0]) ∧ Below w.heap.size w w' := by
  have h1 := hchk w hC
  have p1 : ((xs.length : Int) = 0) = False := eq_false (by omega)
  have p2 : ((xs.length : Int) == 0) = false := beq_eq_false_iff_ne.mpr (by omega)
  refine (callsIn_wide (n := 4)).1 ?_
  refine callsIn_of_wp_marks Try.func13 rfl trivial ?_ rfl
  simp only [Try.ntmps13, List.size_toArray, List.length_cons, List.length_nil, Nat.reduceAdd, Nat.reduceSub, Array.replicate_succ, Array.replicate_zero, List.push_toArray, List.append_toArray, List.nil_append, List.cons_append]
  gi_wp2_with (first | (refine ⟨trivial, ?_⟩; gi_at_call 27; refine (callsIn_wide.2 h1).mono ?_; rintro e w1 ⟨rfl, hb1⟩) | (refine ⟨trivial, ?_⟩; gi_at_call 12; refine (each_in _ A xs.length c _).mono ?_; rintro e w2 ⟨rfl, hw2⟩))
  obtain ⟨b, hb⟩ : ∃ b, b = w1.heap.size := ⟨_, rfl⟩
  have hI0 : BF b b (Lib.byteCells []) ((w1.alloc (Obj.cells #[Value.pointer none, Value.slice none 0 0] 57)).alloc (Obj.cells #[Value.slice A xs.length c] 22)) := by
    rw [hb]
    exact (Lib.IsBuilderF.of (Lib.fresh_isBuilder 57 5 w1)).alloc _
  have hBs : ((w1.alloc (Obj.cells #[Value.pointer none, Value.slice none 0 0] 57)).alloc (Obj.cells #[Value.slice A xs.length c] 22)).heap[b + 1]? = some (.cells #[.slice A xs.length c] 22 (0, 0)) := by
    rw [hb, ← World.size_alloc w1 (Obj.cells #[Value.pointer none, Value.slice none 0 0] 57)]
    exact World.alloc_heap_new _ _
  have hB2 : Below w.heap.size w ((w1.alloc (Obj.cells #[Value.pointer none, Value.slice none 0 0] 57)).alloc (Obj.cells #[Value.slice A xs.length c] 22)) := (hb1.alloc hb1.size _).alloc (by rw [World.size_alloc]; have := hb1.size; omega) _
  have hwb : w.heap.size ≤ b := by rw [hb]; exact hb1.size
  rw [← hb]
  generalize (w1.alloc (Obj.cells #[Value.pointer none, Value.slice none 0 0] 57)).alloc (Obj.cells #[Value.slice A xs.length c] 22) = W2 at hI0 hBs hB2 ⊢
  clear hb hb1 h1 p1 p2
  have hbW : b + 1 < W2.heap.size := (Array.getElem?_eq_some_iff.1 hBs).1
  refine wpIn_rangeFunc_ownG rfl (by omega) (gf := 26) (lb := #[.pointer (some ⟨b + 1, 0, none⟩)]) rfl trivial (enters_of Try.func26 (by kernel_rfl) rfl)
    (each_stops _ (by omega) (b + 1) w A c xs hk hC i1 hchk W2 hBs hB2) Kr.trans (kr_b (by omega)) (Below.refl _ _) (fun _ => rfl)
    (fun pre W => BF b b (Lib.byteCells (txt (pre.map (·.1)))) W ∧ Below w.heap.size w W)
    (fun _ _ _ => False)
    (OwnFrom.and (Own.from (own_builder b b) _) (ownFrom_below (Nat.le_refl _) (by omega)))
    (fun _ _ _ _ _ hs _ _ => hs)
    ⟨hI0, hB2⟩
    (fun x => { tmps := #[Value.slice A xs.length c, undef, Value.int IntKind.i64 0, Value.string { data := #[] }, Value.int IntKind.i64 0, Value.int IntKind.i64 i1, Value.int IntKind.i64 0, Value.pointer (some ⟨b, 0, none⟩), undef, Value.int .i64 x.1.2, Value.tuple #[Value.int IntKind.i64 i1, Value.int IntKind.i64 0], Value.slice A xs.length c, Value.tuple #[Value.int IntKind.i64 i1, Value.int IntKind.i64 0], Value.int IntKind.i64 i1, Value.int IntKind.i64 0, Value.int IntKind.i64 0, Value.bool false, undef, Value.slice A xs.length c, Value.int IntKind.i64 xs.length, Value.bool false, Value.slice A xs.length c, Value.func (Fn.func 26) #[] #[Value.pointer (some ⟨b + 1, 0, none⟩)], Value.int .i64 x.1.1, Value.int .i64 x.1.2, undef, undef, undef, undef, undef, undef, undef, undef], defers := [] }) ?assign ?body ?done ?stop
  case assign =>
    intro l x W K hK
    gi_wp2
    exact hK
  case body =>
    rintro l pre ⟨⟨m, k⟩, hk0, hk4⟩ W ⟨hI, hB⟩ hlt
    obtain ⟨cs, hcs⟩ := bf_cells hI
    have hlen : (Lib.byteCells (txt (pre.map (·.1)))).length + 1 ≤ 140737488355328 := by
      rw [Lib.byteCells_length]
      simp only [txt, List.length_map]
      omega
    have hbw : b ≤ W.heap.size := Nat.le_of_lt (Array.getElem?_eq_some_iff.1 hcs).1
    dsimp only at hk0 hk4
    have hkk : k = 0 ∨ k = 1 ∨ k = 2 ∨ k = 3 := by omega
    rcases hkk with rfl | rfl | rfl | rfl
    · gi_wp2_with (refine ⟨trivial, ?_⟩; gi_at_call 28; refine (CallsIn.inRound l (callsIn_wide.2 (wb b b _ 82 _ hI hlen hbw))).mono ?_; rintro e w' ⟨rfl, h1, h2, h3⟩)
      refine ⟨(keeps_of_others h3 hcs h2.size).from _, kr_of_others h3 hcs (h2.mono hwb), ?_, hB.trans (h2.mono hwb)⟩
      rw [List.map_append, List.map_singleton, txt_snoc, Lib.byteCells_append]
      exact .inr h1
    · gi_wp2_with (refine ⟨trivial, ?_⟩; gi_at_call 28; refine (CallsIn.inRound l (callsIn_wide.2 (wb b b _ 65 _ hI hlen hbw))).mono ?_; rintro e w' ⟨rfl, h1, h2, h3⟩)
      refine ⟨(keeps_of_others h3 hcs h2.size).from _, kr_of_others h3 hcs (h2.mono hwb), ?_, hB.trans (h2.mono hwb)⟩
      rw [List.map_append, List.map_singleton, txt_snoc, Lib.byteCells_append]
      exact .inr h1
    · gi_wp2_with (refine ⟨trivial, ?_⟩; gi_at_call 28; refine (CallsIn.inRound l (callsIn_wide.2 (wb b b _ 87 _ hI hlen hbw))).mono ?_; rintro e w' ⟨rfl, h1, h2, h3⟩)
      refine ⟨(keeps_of_others h3 hcs h2.size).from _, kr_of_others h3 hcs (h2.mono hwb), ?_, hB.trans (h2.mono hwb)⟩
      rw [List.map_append, List.map_singleton, txt_snoc, Lib.byteCells_append]
      exact .inr h1
    · gi_wp2_with (refine ⟨trivial, ?_⟩; gi_at_call 28; refine (CallsIn.inRound l (callsIn_wide.2 (wb b b _ 68 _ hI hlen hbw))).mono ?_; rintro e w' ⟨rfl, h1, h2, h3⟩)
      refine ⟨(keeps_of_others h3 hcs h2.size).from _, kr_of_others h3 hcs (h2.mono hwb), ?_, hB.trans (h2.mono hwb)⟩
      rw [List.map_append, List.map_singleton, txt_snoc, Lib.byteCells_append]
      exact .inr h1
  case done =>
    rintro D ys W hD hys ⟨hI, hB⟩ hK
    rw [hys] at hI
    obtain ⟨ad, rfl, q0, q1, q2⟩ := at_Q hC 0 hl
    obtain ⟨cs, hcs⟩ := bf_cells hI
    have HBW := Aside0.mk (show b ≤ W.heap.size from Nat.le_of_lt (Array.getElem?_eq_some_iff.1 hcs).1)
    have hmx : Try.prog.follows .mixedOrders = true := by kernel_rfl
    have c1 : ((0 : Int) < (xs.length : Int)) = True := eq_true (by omega)
    obtain ⟨y1, hy1⟩ : ∃ y, (rq xs 0).2.1 = y := ⟨_, rfl⟩
    have C1 := Aside0.mk (show w.cell? ⟨ad.block, ad.off + 1, none⟩ = some (.int .i64 y1) by rw [← hy1]; simpa [Addr.add] using q1)
    have HI := Aside0.mk hI
    have HB := Aside0.mk hB
    have HK := Aside0.mk hK
    have HCS := Aside0.mk hcs
    have HWB := Aside0.mk hwb
    have hB2s := Aside0.mk (Nat.le_trans hB2.size hD)
    clear hD
    have HY1 := Aside0.mk hy1
    clear q0 q1 q2 hI hB hK hcs hys hI0 hBs hB2 hbW hy1
    gi_wp2
    refine wpIn_wide.2 (wp_np ?_)
    refine start_ (n := 8) (S := fun w' => w'.cell? ⟨ad.block, ad.off + 1, none⟩ = some (.int .i64 y1)) (ds := []) #[false, false, false, false, false, false, false, false] (by kernel_rfl) rfl rfl (((HB.out.cell (World.block_lt_of_cell? w _ C1.out)).trans C1.out)) (fun hHeld => ?_)
    replace HB := Aside0.mk (HB.out.drew)
    replace HI := Aside0.mk (show BF b b _ W.drew from HI.out)
    replace HK := Aside0.mk (show W.drew.heap[D]? = _ from HK.out)
    replace HBW := Aside0.mk (show b ≤ W.drew.heap.size from HBW.out)
    replace HCS := Aside0.mk (show W.drew.heap[b]? = _ from HCS.out)
    generalize W.drew = W at HB HI HK HBW HCS hHeld ⊢
    refine pure_ (i := 0) (N := some 28) (v := ?_) (a' := ?_) #[true, false, false, false, false, false, false, false] rfl rfl (by kernel_rfl) (fun _ _ _ h => h) (Or.inl ⟨by rfl, ?_⟩) ?_ ?_
    rotate_left
    · intro w'
      go_simp
      with_reducible rfl
    rotate_left
    · simp only [Act.put, List.setIfInBounds_toArray, List.set_cons_zero, List.set_cons_succ, i64_w, i32_w]
      rfl
    refine pure_ (i := 1) (N := some 29) (v := ?_) (a' := ?_) #[true, true, false, false, false, false, false, false] rfl rfl (by kernel_rfl) (fun _ _ _ h => h) (Or.inl ⟨by rfl, ?_⟩) ?_ ?_
    rotate_left
    · intro w'
      go_simp
      with_reducible rfl
    rotate_left
    · simp only [Act.put, List.setIfInBounds_toArray, List.set_cons_zero, List.set_cons_succ, i64_w, i32_w]
      rfl
    refine pure_ (i := 2) (N := some 30) (v := ?_) (a' := ?_) #[true, true, true, false, false, false, false, false] rfl rfl (by kernel_rfl) (fun _ _ _ h => h) (Or.inl ⟨by rfl, ?_⟩) ?_ ?_
    rotate_left
    · intro w'
      go_simp
      with_reducible rfl
    rotate_left
    · simp only [Act.put, List.setIfInBounds_toArray, List.set_cons_zero, List.set_cons_succ, i64_w, i32_w]
      rfl
    refine take_ (i := 3) (N := some 31) (v := ?_) (a' := ?_) #[true, true, true, true, false, false, false, false] rfl rfl (by kernel_rfl) (fun _ _ _ h => h) (Or.inl ⟨by rfl, ?_⟩) hHeld ?_ ?_
    rotate_left
    · intro w' s0
      go_simp
      with_reducible rfl
    rotate_left
    · simp only [Act.put, List.setIfInBounds_toArray, List.set_cons_zero, List.set_cons_succ, i64_w, i32_w]
      rfl
    refine one_ (i := 4) (N := some 32) #[true, true, true, true, true, false, false, false] rfl rfl (by kernel_rfl) (by decide) (fun K hK => ?_)
    refine goes_ Try.func29 (by kernel_rfl) rfl #[.pointer (some ⟨b, 0, none⟩)] (by rfl) rfl rfl (by first | rfl | (simp only [List.map_toArray, List.map_cons, List.map_nil]; rfl)) ?_
    with_reducible refine (sb b b _ _ HI.out HBW.out).mono ?_
    rintro e wv ⟨rfl, h1, h2, h3⟩
    replace HK := Aside0.mk (h3 D _ HK.out (fun e => by injection e with e; subst e; have q := HCS.out; rw [HK.out] at q; cases q) (fun c fz e => by cases e))
    replace HB := Aside0.mk (HB.out.trans (h2.mono HWB.out))
    clear h1 h2 h3
    refine ⟨_, rfl, ?_⟩
    refine hK.out _ _ (((HB.out.cell (World.block_lt_of_cell? w _ C1.out)).trans C1.out)) (fun hHeld => ?_)
    clear hK K
    refine norm_ (a' := ?_) ?_ ?_
    rotate_left
    · show Act.put _ (some 32) _ = _
      simp only [Act.put, List.setIfInBounds_toArray, List.set_cons_zero, List.set_cons_succ, i64_w, i32_w]
      rfl
    refine pure_ (i := 5) (N := some 2) (v := ?_) (a' := ?_) #[true, true, true, true, true, true, false, false] rfl rfl (by kernel_rfl) (fun _ _ _ h => h) (Or.inl ⟨by rfl, ?_⟩) ?_ ?_
    rotate_left
    · intro w'
      go_simp
      with_reducible rfl
    rotate_left
    · simp only [Act.put, List.setIfInBounds_toArray, List.set_cons_zero, List.set_cons_succ, i64_w, i32_w]
      rfl
    refine pure_ (i := 6) (N := some 3) (v := ?_) (a' := ?_) #[true, true, true, true, true, true, true, false] rfl rfl (by kernel_rfl) (fun _ _ _ h => h) (Or.inl ⟨by rfl, ?_⟩) ?_ ?_
    rotate_left
    · intro w'
      go_simp
      with_reducible rfl
    rotate_left
    · simp only [Act.put, List.setIfInBounds_toArray, List.set_cons_zero, List.set_cons_succ, i64_w, i32_w]
      rfl
    refine pure_ (i := 7) (N := some 4) (v := ?_) (a' := ?_) #[true, true, true, true, true, true, true, true] rfl rfl (by kernel_rfl) (fun _ _ _ h => h) (Or.inl ⟨by rfl, ?_⟩) ?_ ?_
    rotate_left
    · intro w'
      go_simp
      with_reducible rfl
    rotate_left
    · simp only [Act.put, List.setIfInBounds_toArray, List.set_cons_zero, List.set_cons_succ, i64_w, i32_w]
      rfl
    refine done_ (by kernel_rfl) ?_
    refine np_normal ?_
    gi_wp2
    refine ⟨by simp, .inl ⟨_, _, rfl, run_takeDeferred HK.out, ?_⟩⟩
    exact ⟨_, by first | rfl | kernel_rfl, by rw [HY1.out], HB.out.trans (belowK_b (w := w) (Nat.le_refl _) _ D _ _ (by have := hB2s.out; omega) HK.out rfl rfl)⟩
  case stop =>
    rintro D c pre W _ _ h _
    exact h.elim
end
end Go.Proofs.Ytegmofaiobdilaa.Vw3
