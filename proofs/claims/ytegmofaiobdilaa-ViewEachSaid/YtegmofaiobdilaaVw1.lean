/- view.Each: the iterator over the minutes of any records that may be: all of them, in order, to any loop body that keeps what lay. -/
import Derived.RangeFuncNested
import Derived.RangeFuncBound
import Derived.RangeFuncCalls
import Derived.RangeFuncLeaves
import Derived.RangeFuncBox
import Derived.Shelf.Abstract
import Derived.Shelf.RegionOpen
import Derived.WalkKit
import Derived.OwnWalkIn
import Derived.TacticsInMore
import Derived.LoopNIn
import Derived.LoopIn
import Derived.Test.YtegmofaiobdilaaProg
import Derived.Test.YtegmofaiobdilaaWWords
import Derived.Test.YtegmofaiobdilaaWLast
import Derived.Test.YtegmofaiobdilaaWMore
namespace Go.Proofs.Ytegmofaiobdilaa.Vw1
open Go.RowKit Go.Shelf Go.Proofs.YtegmofaiobdilaaW.PrintWords Go.Proofs.YtegmofaiobdilaaW.PrintLast Go.Proofs.YtegmofaiobdilaaW.PrintMore
attribute [local go_sem] Oper.semAt_some
set_option linter.unusedVariables false
set_option linter.unusedSimpArgs false
abbrev Rec := Int × Int × Int
abbrev kdq : Kd Rec := Kd.pair (Kd.int .i64) (Kd.pair (Kd.int .i64) (Kd.int .i64))
def rq (xs : List Rec) (i : Nat) : Rec := xs.getD i (0, 0, 0)
theorem at_Q {w : World} {A : Option Addr} {n : Nat} {xs : List Rec} (h : Kd.C kdq w A n xs) (i : Nat) (h1 : i < n) : ∃ ad, A = some ad ∧ w.cell? (ad.add (i * 3)) = some (.int .i64 (rq xs i).1) ∧ w.cell? ⟨(ad.add (i * 3)).block, (ad.add (i * 3)).off + 1, none⟩ = some (.int .i64 (rq xs i).2.1) ∧ w.cell? ⟨(ad.add (i * 3)).block, (ad.add (i * 3)).off + 2, none⟩ = some (.int .i64 (rq xs i).2.2) := by
  obtain ⟨ad, c, e, _, hK, hc0⟩ := Kd.C_get h ((0, 0, 0) : Rec) (i : Int) (by omega) (by omega)
  rw [Int.toNat_natCast] at hc0 hK
  have hc : ∀ j u, c[j]? = some u → w.cell? (ad.add (i * 3 + j)) = some u := hc0
  obtain ⟨_, _, rfl, rfl, ⟨_, _, rfl, rfl, rfl⟩⟩ := hK
  exact ⟨ad, e, hc 0 _ rfl, by rw [← add_field _ _ 1 (by omega)]; exact hc 1 _ rfl, by rw [← add_field _ _ 2 (by omega)]; exact hc 2 _ rfl⟩
theorem wrap_ok {k m : Nat} (h : m ≤ maxLen) (hk : k < m) : wrap64 ((k : Int) + 1) = ((k + 1 : Nat) : Int) := by
  unfold maxLen at h
  unfold wrap64
  omega
theorem less_ok {k m : Nat} (hk : k < m) : m - (intOf (Value.int .i64 ((k + 1 : Nat) : Int))).toNat < m - (intOf (Value.int .i64 (k : Int))).toNat := by
  simp only [intOf, Int.toNat_natCast]
  omega
def minsR (r : Rec) (d : Nat) : List (Int × Int) := (List.range d).map fun (j : Nat) => (r.2.1 + (j : Int), r.1)
theorem minsR_succ (r : Rec) (d : Nat) : minsR r (d + 1) = minsR r d ++ [(r.2.1 + (d : Int), r.1)] := by simp [minsR, List.range_succ]
def lenR (r : Rec) : Nat := (r.2.2 - r.2.1).toNat
def mins (xs : List Rec) : List (Int × Int) := xs.flatMap fun r => minsR r (lenR r)
theorem mins_succ (xs : List Rec) (i : Nat) (h : i < xs.length) : mins (xs.take (i + 1)) = mins (xs.take i) ++ minsR (rq xs i) (lenR (rq xs i)) := by
  have e : xs.take (i + 1) = xs.take i ++ [rq xs i] := by rw [List.take_add_one, List.getElem?_eq_getElem h]; simp [rq, h]
  rw [e]
  simp [mins]
theorem mins_append (a b : List Rec) : mins (a ++ b) = mins a ++ mins b := by simp [mins]
theorem mins_prefix (xs : List Rec) (k : Nat) : mins (xs.take k) <+: mins xs := ⟨mins (xs.drop k), by rw [← mins_append, List.take_append_drop]⟩
abbrev MK := { x : Int × Int // 0 ≤ x.2 ∧ x.2 < 4 }
/-- What a round keeps: all that lay below n₀, and each block that holds a record or a slice of records. -/
def Kr (n₀ : Nat) (W W' : World) : Prop := Below n₀ W W' ∧ ∀ (k : Nat) (c : Array Value) (t : TypeId), (t = 50 ∨ t = 22) → W.heap[k]? = some (Obj.cells c t (0, 0)) → W'.heap[k]? = some (Obj.cells c t (0, 0))
theorem Kr.trans {n₀ : Nat} {A B C : World} (h : Kr n₀ A B) (k : Kr n₀ B C) : Kr n₀ A C := ⟨h.1.trans k.1, fun i c t ht hi => k.2 i c t ht (h.2 i c t ht hi)⟩
theorem Kr.below {n₀ : Nat} {A B C : World} (h : Below A.heap.size A B) (hn : n₀ ≤ A.heap.size) : Kr n₀ A B := ⟨h.mono hn, fun i c t _ hi => (h.block i (Array.getElem?_eq_some_iff.1 hi).1).trans hi⟩
theorem grown_of_below {W W' : World} (h : Below W.heap.size W W') : W.grownBy W' none := ⟨h.os, h.tape, h.output, h.size, fun k hk _ => h.block k hk⟩
set_option maxRecDepth 100000 in
set_option maxHeartbeats 4000000 in
theorem each1_in (n : Nat) (hn : 1 ≤ n) (l Bs : Nat) (w0 : World) (A : Option Addr) (c : Nat) (xs : List Rec) (hk : ∀ r ∈ xs, 0 ≤ r.1 ∧ r.1 < 4 ∧ 0 ≤ r.2.1 ∧ r.2.1 < r.2.2 ∧ r.2.2 ≤ 40320) (hC : Kd.C kdq w0 A xs.length xs) (i1 : Int)
    (hchk : ∀ W, Kd.C kdq W A xs.length xs → Calls Try.prog 27 #[.slice A xs.length c] W fun e W' => e = .returned (.tuple #[.int .i64 i1, .int .i64 0]) ∧ Below W.heap.size W W')
    (J Jx : List MK → World → Prop) (W : World) (hJ : AbidesFrom W.heap.size J) (hJx : AbidesFrom W.heap.size Jx)
    (hY : ∀ pre x W, J pre W → pre.length < (mins xs).length → YieldAt Fence.wide (n - 1) Try.prog l #[.int .i64 x.1.1, .int .i64 x.1.2] W fun e W' =>
      (e = .returned (.bool true) ∧ J (pre ++ [x]) W' ∧ Kr w0.heap.size W W') ∨ (e = .returned (.bool false) ∧ Jx (pre ++ [x]) W'))
    (hW0 : Below w0.heap.size w0 W) (hBs : W.heap[Bs]? = some (.cells #[.slice A xs.length c] 22 (0, 0))) (h0 : J [] W) :
    CallsIn Fence.wide n Try.prog 26 #[.func (.yield l) #[] #[], .pointer (some ⟨Bs, 0, none⟩)] W fun e W' => (∃ v, e = .returned v) ∧
      ((∃ ys : List MK, ys.map (·.1) = mins xs ∧ J ys W') ∨ (∃ pre : List MK, pre.map (·.1) <+: mins xs ∧ Jx pre W')) := by
  have hb0 : W.cell? ⟨Bs, 0, none⟩ = some (.slice A xs.length c) := by simp [World.cell?, hBs]
  have HCH := Aside0.mk (hchk W (Kd.C_below hC hW0))
  refine callsIn_of_wp Try.func26 rfl trivial ?_ rfl
  simp only [Try.ntmps26, List.size_toArray, List.length_cons, List.length_nil, Nat.reduceAdd, Nat.reduceSub, Array.replicate_succ, Array.replicate_zero, List.push_toArray, List.append_toArray, List.nil_append, List.cons_append]
  gi_wp2_with (refine ⟨trivial, ?_⟩; gi_at_call 27; refine (callsIn_wide.2 HCH.out).mono ?_; rintro e W1 ⟨rfl, hb1⟩; have hb1_ := (hb1.cell (p := ⟨Bs, 0, none⟩) (Array.getElem?_eq_some_iff.1 hBs).1).trans hb0)
  gi_loopw [17] (fun i wr => ∃ k : Nat, k ≤ xs.length ∧ i = .int .i64 (k : Int) ∧ (∃ pre : List MK, pre.map (·.1) = mins (xs.take k) ∧ J pre wr) ∧ wr.heap[Bs]? = some (.cells #[.slice A xs.length c] 22 (0, 0)) ∧ Below w0.heap.size w0 wr ∧ W.heap.size ≤ wr.heap.size)
    (fun i _ => xs.length - (intOf i).toNat)
  case atStart => exact ⟨0, Nat.zero_le _, rfl, ⟨[], rfl, hJ _ _ _ none h0 (grown_of_below hb1) (by simp)⟩, (hb1.block _ (Array.getElem?_eq_some_iff.1 hBs).1).trans hBs, hW0.trans (hb1.mono hW0.size), hb1.size⟩
  case round =>
    clear hb1_ hb1 hb0
    obtain ⟨k, hkl, rfl, ⟨pre, hpre, hJs⟩, hBr, hB, hSz⟩ := hrel
    by_cases hlt : k < xs.length
    · obtain ⟨ad, rfl, q0, q1, q2⟩ := at_Q (Kd.C_below hC hB) k hlt
      have hkx := hk (rq xs k) (by simp [rq, hlt])
      obtain ⟨x, hx⟩ : ∃ x, x = rq xs k := ⟨_, rfl⟩
      rw [← hx] at q0 q1 q2 hkx
      obtain ⟨x0, x1, x2⟩ := x
      have c1 : (k : Int) < (xs.length : Int) := by omega
      gi_wp2
      have hbx := World.alloc_heap_new wr (Obj.cells #[Value.int .i64 x0, Value.int .i64 x1, Value.int .i64 x2] 50)
      have hbb : Below wr.heap.size wr (wr.alloc (Obj.cells #[Value.int .i64 x0, Value.int .i64 x1, Value.int .i64 x2] 50)) := (Below.refl _ wr).alloc (Nat.le_refl _) _
      obtain ⟨b, hb⟩ : ∃ b, b = wr.heap.size := ⟨_, rfl⟩
      rw [← hb] at hbx ⊢
      generalize wr.alloc (Obj.cells #[Value.int .i64 x0, Value.int .i64 x1, Value.int .i64 x2] 50) = W2 at hbx hbb ⊢
      clear hb
      have hJ2 : J pre W2 := hJ _ _ _ none hJs (grown_of_below hbb) (by simp)
      have hB2 : Below w0.heap.size w0 W2 := hB.trans (hbb.mono hB.size)
      have hBr2 : W2.heap[Bs]? = some (.cells #[.slice (some ad) xs.length c] 22 (0, 0)) := (hbb.block _ (Array.getElem?_eq_some_iff.1 hBr).1).trans hBr
      have hSz2 : W.heap.size ≤ W2.heap.size := Nat.le_trans hSz hbb.size
      have hmk : mins (xs.take (k + 1)) = mins (xs.take k) ++ minsR (x0, x1, x2) (lenR (x0, x1, x2)) := by rw [mins_succ xs k hlt, ← hx]
      have hml : (mins (xs.take (k + 1))) <+: mins xs := mins_prefix xs (k + 1)
      obtain ⟨D, hD⟩ : ∃ D, D = lenR (x0, x1, x2) := ⟨_, rfl⟩
      have hD2 : x1 + (D : Int) = x2 := by rw [hD]; unfold lenR; simp only []; omega
      rw [← hD] at hmk
      clear hD hx
      gi_loopw [7] (fun m wq => ∃ d : Nat, d ≤ D ∧ m = .int .i64 (x1 + (d : Int)) ∧ (∃ pre : List MK, pre.map (·.1) = mins (xs.take k) ++ minsR (x0, x1, x2) d ∧ J pre wq) ∧ wq.heap[b]? = some (.cells #[Value.int .i64 x0, Value.int .i64 x1, Value.int .i64 x2] 50 (0, 0)) ∧ wq.heap[Bs]? = some (.cells #[.slice (some ad) xs.length c] 22 (0, 0)) ∧ Below w0.heap.size w0 wq ∧ W.heap.size ≤ wq.heap.size)
        (fun m _ => (x2 - intOf m).toNat)
      case atStart => exact ⟨0, Nat.zero_le _, by simp, ⟨pre, by rw [hpre]; simp [minsR], hJ2⟩, hbx, hBr2, hB2, hSz2⟩
      case round =>
        clear hbx hbb hJ2 hB2 hBr2 hSz2 hpre hJs pre q0 q1 q2
        obtain ⟨d, hdl, rfl, ⟨pre, hpre, hJs⟩, hbx, hBr, hB, hSz⟩ := hrel
        have r0 : wr.cell? ⟨b, 0, none⟩ = some (Value.int .i64 x0) := by simp [World.cell?, hbx]
        have r2 : wr.cell? ⟨b, 2, none⟩ = some (Value.int .i64 x2) := by simp [World.cell?, hbx]
        by_cases hd : d < D
        · have c2 : x1 + (d : Int) < x2 := by omega
          have hw : wrap64 (x1 + (d : Int) + 1) = x1 + ((d + 1 : Nat) : Int) := by unfold wrap64; omega
          have hlen : pre.length < (mins xs).length := by
            have e1 := congrArg List.length hpre
            have e2 := hml.length_le
            rw [hmk] at e2
            simp only [List.length_map, List.length_append, minsR, List.length_range] at e1 e2
            omega
          obtain ⟨fn, tmps, assign, body, hy, hR⟩ := hY pre ⟨(x1 + (d : Int), x0), hkx.1, hkx.2.1⟩ wr hJs hlen
          dsimp only at hy
          gi_wp2
          refine hR.mono ?_
          rintro e W3 (⟨rfl, hJ3, hk3⟩ | ⟨rfl, hJx3⟩)
          · gi_wp2
            go_roundw
            case rel =>
              refine ⟨d + 1, by omega, by first | rw [hw] | (simp; done) | (simp; omega), ⟨pre ++ [⟨(x1 + (d : Int), x0), hkx.1, hkx.2.1⟩], ?_, hJ3⟩, hk3.2 _ _ _ (.inl rfl) hbx, hk3.2 _ _ _ (.inr rfl) hBr, hB.trans hk3.1, Nat.le_trans hSz hk3.1.size⟩
              rw [List.map_append, hpre, minsR_succ, List.append_assoc]
              rfl
            case measure =>
              simp [intOf]
              omega
          · gi_wp2
            refine bodyPost_ret (results_none rfl _ _ _) rfl ?_
            refine ⟨⟨_, rfl⟩, .inr ⟨_, ?_, hJx3⟩⟩
            refine List.IsPrefix.trans ?_ hml
            rw [List.map_append, hpre, hmk, List.append_assoc, List.prefix_append_right_inj]
            have e3 : minsR (x0, x1, x2) (d + 1) <+: minsR (x0, x1, x2) D := by
              refine ⟨(minsR (x0, x1, x2) D).drop (d + 1), ?_⟩
              have : minsR (x0, x1, x2) (d + 1) = (minsR (x0, x1, x2) D).take (d + 1) := by
                unfold minsR
                rw [← List.map_take, List.take_range, Nat.min_eq_left (by omega)]
              rw [this, List.take_append_drop]
            rw [minsR_succ] at e3
            exact e3
        · have hdD : d = D := by omega
          rw [hdD] at hpre
          have c2 : (x1 + (d : Int) < x2) = False := eq_false (by omega)
          have c3 : decide (x1 + (d : Int) < x2) = false := decide_eq_false (by omega)
          clear hdD
          gi_wp2
          go_roundw
          case rel => exact ⟨k + 1, Nat.succ_le_of_lt hlt, by rw [wrap_ok hC.2.1 hlt], ⟨pre, by rw [hmk]; exact hpre, hJs⟩, hBr, hB, hSz⟩
          case measure =>
            rw [wrap_ok hC.2.1 hlt]
            exact less_ok hlt
    · obtain rfl : k = xs.length := by omega
      gi_wp2
      go_end0
      rw [List.take_length] at hpre
      exact ⟨⟨_, rfl⟩, .inl ⟨pre, hpre, hJs⟩⟩
end Go.Proofs.Ytegmofaiobdilaa.Vw1
