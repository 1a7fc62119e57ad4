/- Rows of whole numbers that a call owns: slices.Clone and slices.Insert at []int, as the library's text goes, in the words of an own row; every row and place that the statements name. -/
import Derived.Test.YtcofibbgdnbejaaProg
import Derived.Below
import Derived.Deep.Draws
import Derived.Deep.AppendLies
import Derived.Maps.AppendAt
import Derived.OwnWalk
import Derived.Laws.BytesArg
import Derived.Laws.MakeOwn
import Derived.Laws.OwnMore
import Derived.Deep.OwnRows
import Derived.Tactics
import Derived.Lib.ConvBytes
import Derived.Laws.Slices
import Derived.WalkKit
import Derived.KernelRfl
import Derived.RowKit3
import Derived.Deep.LoopGhost
import Derived.Deep.QuietTactic
import Derived.BigQuiet
import Derived.WideLaws
import Derived.Deep.DeepCutAuto
import Derived.Deep.CutBlock
import Derived.Deep.RegionHeld3
import Derived.Laws.Rows
import Derived.Lib.AppendStr
import Derived.ArgAppend
import Derived.Laws.IdiomCopy
import Derived.OrdersHeld
import Derived.Laws.BitsLemmas
import Derived.RowKit
import Derived.Shelf.Abstract
import Derived.Laws.CopyOwn
import Derived.Lib.AppendZeros
import Derived.Lib.SliceRun
import Derived.Test.YtcofibbgdnbejaaWWords
import Derived.Test.YtcofibbgdnbejaaWLast
import Derived.Test.YtcofibbgdnbejaaWRest
import Derived.Shelf.Spec.SlicesInsertGrow
namespace Go.Proofs.Ytcofibbgdnbejaa.Ints
open Go.RowKit Go.Proofs.YtcofibbgdnbejaaW.PrintWords Go.Proofs.YtcofibbgdnbejaaW.PrintLast Go.Proofs.YtcofibbgdnbejaaW.PrintMore
attribute [local go_sem] max2_int min2_int max_two min_two max_three min_three max_four min_four
set_option linter.unusedVariables false
set_option linter.unusedSimpArgs false
theorem info3 : (Try.prog.info? 3).map (fun i => (i.zero, i.size, i.bytes)) = some (some (.int .i64 0), 1, 8) := by kernel_rfl
def ren : Go.Shelf.Ren := ⟨fun | 21 => 40 | 27 => 47 | 28 => 48 | 35 => 50 | 39 => 42 | n => n, fun | 22 => 33 | n => n, fun n => n⟩
theorem lays : Lays2.n21 Try.prog ren := {
  mixed := (by kernel_rfl)
  f21 := Try.func40.trans (congrArg some (by kernel_rfl))
  f27 := Try.func47.trans (congrArg some (by kernel_rfl))
  f28 := Try.func48.trans (congrArg some (by kernel_rfl))
  f35 := Try.func50.trans (congrArg some (by kernel_rfl))
  f39 := Try.func42.trans (congrArg some (by kernel_rfl))
  t0 := Try.underlying0
  a0 := Try.isAgg0
  z0 := Try.sizeOf0
  v0 := Try.zeroValue0
  t3 := Try.underlying3
  a3 := Try.isAgg3
  z3 := Try.sizeOf3
  v3 := Try.zeroValue3
  t4 := Try.underlying4
  a4 := Try.isAgg4
  z4 := Try.sizeOf4
  v4 := Try.zeroValue4
  t22 := Try.underlying33
  a22 := Try.isAgg33
  z22 := Try.sizeOf33
  v22 := Try.zeroValue33
  i3 := (by kernel_rfl) }
abbrev es (xs : List Int) : List Value := encs (Value.int .i64) xs
theorem es_one (xs : List Int) : ∀ u ∈ es xs, u.oneCell' = true := by
  intro u hu
  obtain ⟨_, _, rfl⟩ := List.mem_map.1 hu
  rfl
theorem es_len (xs : List Int) : (es xs).length = xs.length := by simp [es, encs]
theorem es_app (xs ys : List Int) : es (xs ++ ys) = es xs ++ es ys := by simp [es, encs]
theorem es_take (xs : List Int) (i : Nat) : es (xs.take i) = (es xs).take i := by simp [es, encs, List.map_take]
theorem es_drop (xs : List Int) (i : Nat) : es (xs.drop i) = (es xs).drop i := by simp [es, encs, List.map_drop]
theorem cells_of {w : World} {g : Nat} {cur : Array Value} {e : TypeId} {xs : List Value} {n : Nat} (h : w.heap[g]? = some (.cells cur e (0, 0))) (ht : cur.toList.take n = xs) : ∀ j u, xs[j]? = some u → w.cell? ⟨g, 0 + j, none⟩ = some u := by
  intro j u hu
  rw [Nat.zero_add, blk_cell h j, ← Array.getElem?_toList]
  subst ht
  rw [List.getElem?_take] at hu
  split at hu
  · exact hu
  · cases hu
theorem some_of {w : World} {g : Nat} {cur : Array Value} {e : TypeId} (h : w.heap[g]? = some (.cells cur e (0, 0))) (j : Nat) (hj : j < cur.size) : (w.cell? ⟨g, j, none⟩).isSome = true := by
  rw [blk_cell h j, Array.getElem?_eq_getElem hj]
  rfl
theorem grown_set (w : World) (g o : Nat) (vs : List Value) : w.grownBy (w.setCells g o vs) (some g) := by
  obtain ⟨h1, h2, h3, h4⟩ := setCells_same g vs o w
  exact ⟨h1, h2, h3, Nat.le_of_eq h4.symm, fun k _ hk => setCells_far vs o k (fun e => hk (by rw [e]))⟩
theorem grown_trans {w w1 w2 : World} {row : Option Nat} (h : w.grownBy w1 row) (k : w1.grownBy w2 row) : w.grownBy w2 row :=
  ⟨k.os.trans h.os, k.tape.trans h.tape, k.output.trans h.output, Nat.le_trans h.size k.size, fun i hi hr => (k.block i (Nat.lt_of_lt_of_le hi h.size) hr).trans (h.block i hi hr)⟩
theorem grown_drew (w : World) (row : Option Nat) : w.grownBy w.drew row := ⟨rfl, rfl, rfl, Nat.le_refl _, fun _ _ _ => rfl⟩
/-- A block of the call's own whose first cells are known is an own row. -/
theorem own_of {w : World} {base g cap n : Nat} {cur : Array Value} {xs : List Value} (h : w.heap[g]? = some (.cells cur 3 (0, 0))) (hb : base ≤ g) (hn : n ≤ cap) (hc : cap ≤ maxLen) (hs : cur.size = cap) (hl : xs.length = n) (ht : cur.toList.take n = xs) : w.ownsRow base 3 1 (.slice (some ⟨g, 0, none⟩) n cap) n xs :=
  ⟨by omega, .inr ⟨g, cap, cur, rfl, hb, h, hn, hc, by omega, by rw [Nat.mul_one]; exact ht⟩⟩
theorem take_app {α : Type} (a b : List α) (n : Nat) (h : a.length = n) : (a ++ b).take n = a := by
  subst h
  simp
set_option maxHeartbeats 4000000 in
theorem ins (base : Nat) (xs vs : List Int) (i : Nat) (v : Value) (vb vc : Nat) (cv : Array Value) (w : World) (ho : w.ownsRow base 3 1 v xs.length (es xs)) (hi : i ≤ xs.length) (hm : 0 < vs.length) (hb : (xs.length + vs.length) * 8 ≤ 140737488355328)
    (hvb : w.heap[vb]? = some (.cells cv 3 (0, 0))) (hvv : cv.toList.take vs.length = es vs) (hne : v.ownBlock ≠ some vb) (hbase : base ≤ w.heap.size) :
    Calls Try.prog 40 #[v, .int .i64 (i : Int), .slice (some ⟨vb, 0, none⟩) vs.length vc] w fun e w' => ∃ v', e = .returned v' ∧ w'.ownsRow base 3 1 v' (xs.take i ++ vs ++ xs.drop i).length (es (xs.take i ++ vs ++ xs.drop i)) ∧ w.grownBy w' v.ownBlock ∧ (v'.ownBlock = v.ownBlock ∨ ∃ b, v'.ownBlock = some b ∧ w.heap.size ≤ b) := by
  have hlen : (xs.take i ++ vs ++ xs.drop i).length = xs.length + vs.length := by simp; omega
  have hvs := cells_of hvb hvv
  rw [hlen]
  have endgrow : ∀ (bs : Option Addr) (c : Nat), i = xs.length → v = .slice bs xs.length c → xs.length ≤ c → c < xs.length + vs.length → (bs = none → xs.length = 0) → (∀ a, bs = some a → ∀ j u, (es xs)[j]? = some u → w.cell? (a.add j) = some u) →
      Calls Try.prog 40 #[v, .int .i64 (i : Int), .slice (some ⟨vb, 0, none⟩) vs.length vc] w fun e w' => ∃ v', e = .returned v' ∧ w'.ownsRow base 3 1 v' (xs.length + vs.length) (es (xs.take i ++ vs ++ xs.drop i)) ∧ w.grownBy w' v.ownBlock ∧ (v'.ownBlock = v.ownBlock ∨ ∃ b, v'.ownBlock = some b ∧ w.heap.size ≤ b) := by
    intro bs c hie hv hnc hroom hnil hcs
    subst hie
    subst hv
    have h := Any2.slices_Insert_int_end_grow lays bs xs.length c vb 0 vs.length vc (es xs) (es vs) w hm hnc hroom hb (es_len _) (es_len _) hnil hcs hvs (es_one _)
    refine h.mono ?_
    rintro e w' ⟨rfl, rfl⟩
    have hg1 := grownCap_ge w (xs.length + vs.length) c (ren.t 3)
    have hg2 := grownCap_le_maxLen w (xs.length + vs.length) c (ren.t 3) (by unfold maxLen; omega)
    refine ⟨_, rfl, own_of (blk_new w.drew _) hbase hg1 hg2 ?_ (by rw [es_len]; simp) ?_, ?_, .inr ⟨_, rfl, Nat.le_refl _⟩⟩
    · simp [es, encs, Builtin.zeroCells, Value.cells]
      omega
    · rw [Array.toList_append]
      simp only [List.take_length, List.drop_length, List.append_nil]
      rw [es_app]
      exact take_app _ _ _ (by simp [es, encs])
    · exact grown_trans (grown_drew w _) (World.grownBy_alloc _ _ _)
  rcases ho.2 with ⟨rfl, h0⟩ | ⟨g, cap, cur, rfl, hbg, hg, hnc, hcm, hcs, hct⟩
  · exact endgrow none 0 (by omega) (by rw [h0]) (by omega) (by omega) (fun _ => h0) (fun a h => by cases h)
  · rw [Nat.mul_one] at hcs hct
    have hgv : vb ≠ g := fun e => hne (by rw [e]; rfl)
    have hc1 := cells_of hg hct
    have hlt : g < w.heap.size := blk_lt hg
    by_cases hin : i = xs.length
    · subst hin
      by_cases hroom : xs.length + vs.length ≤ cap
      · have h := Any2.slices_Insert_int_end_room lays g 0 xs.length cap vb 0 vs.length vc (es vs) w hm hroom hcm (es_len _) (fun j hj => some_of hg _ (by omega)) (fun j hj => blk_frozen hg _) hvs (es_one _)
        refine h.mono ?_
        rintro e w' ⟨rfl, rfl⟩
        obtain ⟨cur', h1, h2, h3⟩ := setCells_row (g := g) (es vs) (0 + xs.length) w cur hg (by rw [es_len]; omega)
        refine ⟨_, rfl, own_of h1 hbg hroom hcm (by omega) (by rw [es_len]; simp) ?_, grown_set _ _ _ _, .inl rfl⟩
        rw [h3, Nat.zero_add, hct]
        simp only [List.take_length, List.drop_length, List.append_nil]
        rw [es_app]
        exact take_app _ _ _ (by simp [es, encs])
      · exact endgrow (some ⟨g, 0, none⟩) cap rfl rfl hnc (by omega) (fun h => by cases h) (fun a ha j u hu => by
          injection ha with ha
          subst ha
          have := hc1 j u hu
          rw [add_plain]
          rwa [Nat.zero_add] at this)
    · by_cases hroom : xs.length + vs.length ≤ cap
      · have hvl : vs.length ≤ cv.size := by
          have h1 := congrArg List.length hvv
          have h2 := Array.length_toList (xs := cv)
          rw [List.length_take, es_len] at h1
          omega
        have h := Any2.slices_Insert_int_shift lays g 0 xs.length cap i vb 0 vs.length vc (es xs) (es vs) w (by omega) hm hroom hcm hgv (es_len _) (es_len _) hc1 (fun j hj => some_of hg _ (by omega)) (fun j hj => blk_frozen hg _) hvs (es_one _) (es_one _)
          3 3 cv.size cur.size (by simp [World.shape?, hvb]) (by simp [World.shape?, hg]) (by omega) (blk_frozen hvb _) (blk_frozen hvb _)
        refine h.mono ?_
        rintro e w' ⟨rfl, rfl⟩
        obtain ⟨cur1, h1, h2, h3⟩ := setCells_row (g := g) ((es xs).drop i) (0 + (i + vs.length)) w.drew cur hg (by rw [List.length_drop, es_len]; omega)
        obtain ⟨cur2, k1, k2, k3⟩ := setCells_row (g := g) (es vs) (0 + i) _ cur1 h1 (by rw [es_len]; omega)
        refine ⟨_, rfl, own_of k1 hbg hroom hcm (by omega) (by rw [es_len]; exact hlen) ?_, grown_trans (grown_trans (grown_drew w _) (grown_set _ _ _ _)) (grown_set _ _ _ _), .inl rfl⟩
        have e1 : (cur.toList.take (i + vs.length)).take i = (es xs).take i := by
          rw [List.take_take, Nat.min_eq_left (by omega), ← hct, List.take_take, Nat.min_eq_left (by omega)]
        have hcl : cur.toList.length = cap := by rw [Array.length_toList]; exact hcs
        obtain ⟨R, hR⟩ : ∃ R, R = cur.toList.drop (0 + (i + vs.length) + ((es xs).drop i).length) := ⟨_, rfl⟩
        rw [← hR] at h3
        have hT : (cur.toList.take (i + vs.length)).length = i + vs.length := by rw [List.length_take, hcl]; omega
        rw [Nat.zero_add, List.append_assoc] at h3
        have k4 : cur1.toList.take i = (es xs).take i := by
          rw [h3, List.take_append_of_le_length (by rw [hT]; omega), e1]
        have k5 : cur1.toList.drop (i + vs.length) = (es xs).drop i ++ R := by
          rw [h3, List.drop_append_of_le_length (by rw [hT]; omega), List.drop_eq_nil_of_le (by rw [hT]; omega), List.nil_append]
        rw [k3, Nat.zero_add, es_len, k4, k5, es_app, es_app, es_take, es_drop, ← List.append_assoc]
        exact take_app _ _ _ (by simp [es, encs]; omega)
      · have h := Any2.slices_Insert_int_grow lays g 0 xs.length cap i vb 0 vs.length vc (es xs) (es vs) w (by omega) hm hnc (by omega) hb (es_len _) (es_len _) hc1 hvs (es_one _) (es_one _)
        refine h.mono ?_
        rintro e w' ⟨rfl, rfl⟩
        have hg1 := grownCap_ge w (xs.length + vs.length) cap 3
        have hg2 := grownCap_le_maxLen w (xs.length + vs.length) cap 3 (by unfold maxLen; omega)
        obtain ⟨G, hG⟩ : ∃ G, G = grownCap w (xs.length + vs.length) cap (ren.t 3) := ⟨_, rfl⟩
        rw [← hG]
        replace hG : G = grownCap w (xs.length + vs.length) cap 3 := hG
        rw [← hG] at hg1 hg2
        clear hG
        obtain ⟨arr, harr⟩ : ∃ arr, arr = (((es xs).take i).toArray ++ Builtin.zeroCells (Value.int .i64 0).cells (xs.length + vs.length - i) ++ Builtin.zeroCells (Value.int .i64 0).cells (G - (xs.length + vs.length))) := ⟨_, rfl⟩
        rw [← harr]
        have hz : ∀ n, (Builtin.zeroCells (Value.int .i64 0).cells n).toList.length = n := fun n => by simp [Builtin.zeroCells, Value.cells]
        have hsz : arr.size = G := by rw [harr]; simp [es, encs, Builtin.zeroCells, Value.cells]; omega
        have hat : arr.toList.take i = (es xs).take i := by
          rw [harr, Array.toList_append, Array.toList_append, List.append_assoc]
          exact take_app _ _ _ (by simp [es, encs]; omega)
        have hnew := blk_new w (.cells arr 3 (0, 0))
        obtain ⟨cur1, h1, h2, h3⟩ := setCells_row (g := w.heap.size) (es vs) i (w.alloc (.cells arr 3)).drew arr hnew (by rw [es_len]; omega)
        obtain ⟨cur2, k1, k2, k3⟩ := setCells_row (g := w.heap.size) ((es xs).drop i) (i + vs.length) ((w.alloc (.cells arr 3)).drew.setCells w.heap.size i (es vs)).drew cur1 h1 (by rw [List.length_drop, es_len]; omega)
        have hgb : w.grownBy (w.alloc (.cells arr 3)).drew (some w.heap.size) := grown_trans (World.grownBy_alloc _ _ _) (grown_drew _ _)
        have hgr : w.grownBy _ (some w.heap.size) := grown_trans (grown_trans (grown_trans hgb (grown_set _ w.heap.size i (es vs))) (grown_drew _ _)) (grown_set _ w.heap.size (i + vs.length) ((es xs).drop i))
        refine ⟨_, rfl, own_of k1 hbase hg1 hg2 (by omega) (by rw [es_len]; exact hlen) ?_, ?_, .inr ⟨_, rfl, Nat.le_refl _⟩⟩
        · have hal : arr.toList.length = G := by rw [Array.length_toList]; exact hsz
          rw [hat, es_len] at h3
          have k4 : cur1.toList.take (i + vs.length) = (es xs).take i ++ es vs := by
            rw [h3]
            refine take_app _ _ _ ?_
            rw [List.length_append, List.length_take, es_len, es_len]
            omega
          rw [k3, k4, es_app, es_app, es_take, es_drop]
          refine take_app _ _ _ ?_
          rw [List.length_append, List.length_append, List.length_take, List.length_drop, es_len, es_len]
          omega
        · exact ⟨hgr.os, hgr.tape, hgr.output, hgr.size, fun k hk _ => hgr.block k hk (fun e => by injection e with e; omega)⟩
theorem app {P : Program} {ops : Array Oper} {rest : List Oper} {o : Oper} {a : Act} {Q : Exit → Act → World → Prop} {w0 W : World} (base : Nat) (hgd : o.guard = none) (s x : Operand) (t e : TypeId) (z : Value) (sz bytes : Nat)
    (ho : o.op = .call { callee := .builtin .append, args := #[s, x], argTypes := #[t, t] })
    (ht : P.underlying t = some (.slice e)) (hinfo : (P.info? e).map (fun i => (i.zero, i.size, i.bytes)) = some (some z, sz, bytes)) (hz : z.cells.size = sz) (hs0 : 0 < sz) (hb0 : 0 < bytes)
    (v : Value) (n : Nat) (xs ys : List Value) (A : Option Addr) (m c : Nat) (hs : a.eval s = v) (hx : a.eval x = .slice A m c)
    (HO : W.ownsRow base e sz v n xs) (hl : ys.length = m * sz) (HR : 0 < m → ∃ ad, A = some ad ∧ ∀ j u, ys[j]? = some u → W.cell? (ad.add j) = some u) (h1 : ∀ u ∈ ys, u.oneCell' = true) (HB : Below base w0 W) (hbase : base ≤ W.heap.size) (hb : (n + m) * bytes ≤ 140737488355328)
    (h : ∀ v1 w1, w1.ownsRow base e sz v1 (n + m) (xs ++ ys) → Below base w0 w1 → W.grownBy w1 v.ownBlock → wpList P ops Q rest (a.put o.dst v1) w1) :
    wpList P ops Q (o :: rest) a W := by
  obtain ⟨i0, hi, hzz⟩ := Option.map_eq_some_iff.1 hinfo
  simp only [Prod.mk.injEq] at hzz
  obtain ⟨hz0, hz1, hz2⟩ := hzz
  have hlen : n + m ≤ 140737488355328 := Nat.le_trans (Nat.le_mul_of_pos_right _ hb0) hb
  have hrun : ∃ v1 w1, (Builtin.append_ #[t, t] o.type #[v, .slice A m c]).run P W = .ok v1 w1 ∧ w1.ownsRow base e sz v1 (n + m) (xs ++ ys) ∧ W.grownBy w1 v.ownBlock := by
    rcases A with _ | ad
    · have h0 : m = 0 := by
        rcases Nat.eq_zero_or_pos m with h0 | h0
        · exact h0
        · obtain ⟨ad, h, _⟩ := HR h0
          cases h
      subst h0
      obtain rfl : ys = [] := List.eq_nil_of_length_eq_zero (by simpa using hl)
      refine ⟨v, W, ?_, by simpa using HO, World.grownBy.refl W _⟩
      rcases HO.2 with ⟨rfl, hn⟩ | ⟨g, cap, cur, rfl, _, _, hnc, _⟩
      · simp [Builtin.append_, run_underlying ht, sizeOf, typeInfo, hi, Builtin.lenOf, Builtin.firstCells]
      · simp [Builtin.append_, run_underlying ht, sizeOf, typeInfo, hi, Builtin.lenOf, Builtin.firstCells, hnc, storeCells]
    · have hcells : ∀ j u, ys[j]? = some u → W.cell? (ad.add j) = some u := by
        intro j u hu
        have hj : j < ys.length := by
          rcases Nat.lt_or_ge j ys.length with h | h
          · exact h
          · rw [List.getElem?_eq_none h] at hu; cases hu
        have hm : 0 < m := by
          rcases Nat.eq_zero_or_pos m with h0 | h0
          · subst h0; omega
          · exact h0
        obtain ⟨ad', h', hc⟩ := HR hm
        injection h' with h'
        subst h'
        exact hc j u hu
      obtain ⟨v1, w1, hr, h2, h3, _⟩ := run_append_own (P := P) W base t o.type e i0 z sz bytes ht hi hz0 hz1 hz2 hz hs0 v n xs HO ad m c ys hl hcells h1 (by simp only [maxLen]; omega) hb hbase
      exact ⟨v1, w1, hr, h2, h3⟩
  obtain ⟨v1, w1, hr, hown, hg⟩ := hrun
  refine wpList_plain hgd fun K hK => ?_
  unfold Oper.wp execOp
  simp only [ho, resolve, invoke, builtin, Sem.run_bind, Sem.run_pure, Result.andThen_ok, List.map_toArray, List.map_cons, List.map_nil, hs, hx, hr]
  exact hK _ _ (h v1 w1 hown (HB.grown hg hbase (own_base HO)) hg)
theorem lit {P : Program} {ops : Array Oper} {rest : List Oper} {o : Oper} {a : Act} {Q : Exit → Act → World → Prop} {W : World} (hgd : o.guard = none) {N : Tmp} (_hd : o.dst = some N) {cs : Array Value} {e : TypeId} {n : Nat}
    (hrun : (execOp a.eval o).run P W = .ok (.value (.slice (some ⟨W.heap.size, 0, none⟩) n n)) (W.alloc (.cells cs e)))
    (h : ∀ g w1, g = W.heap.size → w1.heap[g]? = some (.cells cs e (0, 0)) → Below W.heap.size W w1 → wpList P ops Q rest (a.put o.dst (.slice (some ⟨g, 0, none⟩) n n)) w1) : wpList P ops Q (o :: rest) a W :=
  Kd.event_run hgd hrun (h _ _ rfl (blk_new W _) (below_alloc (Below.refl _ _) _))
/-- What is read of a row that came in, cell by cell. -/
theorem C_es {w : World} {A : Option Addr} {xs : List Int} (h : Kd.C (Kd.int .i64) w A xs.length xs) : 0 < xs.length → ∃ ad, A = some ad ∧ ∀ j u, (es xs)[j]? = some u → w.cell? (ad.add j) = some u := by
  intro hp
  obtain ⟨ad, he, hc⟩ := h.2.2 hp
  refine ⟨ad, he, fun j u hu => ?_⟩
  have hj : j < xs.length := by
    have := (List.getElem?_eq_some_iff.1 hu).1
    rwa [es_len] at this
  obtain ⟨c, hcl, hK, hcc⟩ := hc j xs[j] (List.getElem?_eq_getElem hj)
  have hK' : c = [Value.int .i64 xs[j]] := hK
  subst hK'
  have h0 := hcc 0 _ rfl
  simp only [es, encs, List.getElem?_map, List.getElem?_eq_getElem hj, Option.map_some, Option.some.injEq] at hu
  subst hu
  have e1 : j * (Kd.int .i64).sz + 0 = j := Nat.mul_one j
  rwa [e1] at h0
abbrev RI (w : World) (base : Nat) (ok : Nat → Prop) (v : Value) (xs : List Int) : Prop := Kd.R (Kd.int .i64) 3 w base ok v xs
abbrev CI (w : World) (A : Option Addr) (xs : List Int) : Prop := Kd.C (Kd.int .i64) w A xs.length xs
theorem RI_of {w : World} {base n : Nat} {v : Value} {xs : List Int} (h : w.ownsRow base 3 1 v n (es xs)) (hn : n = xs.length) : RI w base (fun _ => True) v xs := by
  subst hn
  exact Kd.R_of_own h (fun _ _ => trivial)
theorem own_RI {w : World} {base : Nat} {ok : Nat → Prop} {v : Value} {xs : List Int} (h : RI w base ok v xs) : w.ownsRow base 3 1 v xs.length (es xs) := Kd.own_of_R h
set_option maxHeartbeats 8000000 in
set_option maxRecDepth 100000 in
theorem clone (A0 : Option Addr) (c0 : Nat) (l0 : List Int) (w : World) (hr0 : CI w A0 l0) (hL : l0.length < 1099511627776) :
    Calls Try.prog 28 #[.slice A0 l0.length c0] w fun e w' => ∃ v0_ : Value, e = .returned (v0_) ∧ RI w' w.heap.size (fun _ => True) v0_ l0 ∧ Below w.heap.size w w' := by
  have q22 : ∀ (w : World) (a : Option Addr) (n c n' c' : Nat), (binOp .eql 33 (.slice a n c) (.slice none n' c')).run Try.prog w = .ok (.bool a.isNone) w := fun w a n c n' c' => Go.Lib.run_eql_slice_nil w _ _ a n c n' c' Try.underlying33
  cases A0 with
  | none =>
    have h0 : l0.length = 0 := by
      rcases Nat.eq_zero_or_pos l0.length with h | h
      · exact h
      · obtain ⟨_, h, _⟩ := hr0.2.2 h
        cases h
    obtain rfl := List.eq_nil_of_length_eq_zero h0
    clear h0 hr0
    go_enter Try.func28, Try.ntmps28
    go_wp2
    go_ret
    exact ⟨_, rfl, Kd.R_nil _ _ _ _ _, Below.refl _ _⟩
  | some ad =>
    have HR0 := Aside0.mk hr0
    have HL := Aside0.mk hL
    have HB := Aside0.mk (Below.refl w.heap.size w)
    clear hr0 hL
    go_enter Try.func28, Try.ntmps28
    go_wp2_with (first | ((with_reducible refine gate_dst (N := 5) rfl ?_); refine lit ?hg (N := 5) ?hd (cs := #[]) (e := 3) (n := 0) ?hr ?_; (case hd => rfl); (case hg => rfl); (case hr => first | (go_simp; done) | (go_simp; rfl)); intro g w4 hg_ hg hb; have HO := Aside0.mk (show w4.ownsRow w.heap.size 3 1 (.slice (some ⟨g, 0, none⟩) 0 0) 0 [] from ⟨by simp, .inr ⟨g, 0, #[], rfl, Nat.le_of_eq hg_.symm, hg, Nat.le_refl _, by unfold maxLen; omega, rfl, by simp⟩⟩); replace HB := Aside0.mk (below_step HB.out hb); clear hg hb hg_) | (at_builtin; refine app w.heap.size rfl _ _ 33 3 (.int .i64 0) 1 8 rfl Try.underlying33 info3 rfl (by decide) (by decide) _ _ _ (es l0) (some ad) l0.length c0 rfl rfl HO.out (by rw [es_len, Nat.mul_one]) (C_es (Kd.C_below HR0.out HB.out)) (es_one l0) HB.out (below_size HB.out) (by have := HL.out; omega) ?_; intro v1 w1 ho1 hb1 _; rw [Nat.zero_add, List.nil_append] at ho1; have HO1 := Aside0.mk (RI_of ho1 rfl); replace HB := Aside0.mk hb1; clear ho1 hb1))
    go_ret
    exact ⟨_, rfl, HO1.out, HB.out⟩
section
variable {ops : Array Oper} {rest : List Oper} {o : Oper} {a : Act} {Q : Exit → Act → World → Prop} {W : World}
end
theorem add0 (A : Option Addr) : A.map (·.add 0) = A := by
  cases A with
  | none => rfl
  | some a => simp [Addr.add]
theorem slT (w : World) (A : Option Addr) (n c m : Nat) (h : m ≤ c) : (Instr.slice 33 (.slice A n c) none (some (.int .i64 (m : Int))) none).run Try.prog w = .ok (.slice A m c) w := by
  have h := run_slice_h (P := Try.prog) w 33 A n c Try.underlying33 .i64 (m : Int) (by omega) (by omega)
  rw [h, show (sizeOf (Try.prog.elem 33)).run Try.prog w = .ok 1 w from Try.sizeOf3 w]
  simp only [sliced, Int.toNat_natCast, Nat.sub_zero]
  simp [Try.sizeOf3, Result.andThen, add0]
def dropA (A : Option Addr) (c m : Nat) : Option Addr := if c = m then A else A.map (·.add m)
theorem slD (w : World) (A : Option Addr) (n c m : Nat) (h : m ≤ n) : (Instr.slice 33 (.slice A n c) (some (.int .i64 (m : Int))) none none).run Try.prog w = .ok (.slice (dropA A c m) (n - m) (c - m)) w := by
  have h := run_slice_l (P := Try.prog) w 33 A n c Try.underlying33 .i64 (m : Int) (by omega) (by omega)
  rw [h, show (sizeOf (Try.prog.elem 33)).run Try.prog w = .ok 1 w from Try.sizeOf3 w]
  simp [Try.sizeOf3, Result.andThen, sliced, dropA]
theorem CI_take {w : World} {A : Option Addr} {xs : List Int} {m : Nat} (h : CI w A xs) (hm : m ≤ xs.length) : Kd.C (Kd.int .i64) w A m (xs.take m) := by
  have := Kd.C_take h hm
  rwa [List.length_take, Nat.min_eq_left hm] at this
theorem CI_drop {w : World} {A : Option Addr} {xs : List Int} {m c : Nat} (h : CI w A xs) (hm : m ≤ xs.length) (hc : xs.length ≤ c) : Kd.C (Kd.int .i64) w (dropA A c m) (xs.length - m) (xs.drop m) := by
  have := Kd.C_drop h hm hc
  rw [List.length_drop] at this
  unfold dropA
  rwa [show m * (Kd.int .i64).sz = m from Nat.mul_one m] at this
end Go.Proofs.Ytcofibbgdnbejaa.Ints
