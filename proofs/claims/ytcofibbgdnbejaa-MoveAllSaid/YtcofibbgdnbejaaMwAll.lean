/- A loop over an iterator that writes variables of its own between the rounds: the caller's state names the blocks that are its own, and stands whatever else is written. -/
import Derived.RangeFuncNested
import Derived.RangeFuncBound
import Derived.RangeFuncCalls
import Derived.RangeFuncLeaves
import Derived.RangeFuncBox
import Derived.Shelf.Abstract
import Derived.WalkKit
import Derived.OwnWalkIn
import Derived.TacticsInMore
import Derived.LoopNIn
import Derived.LoopIn
import Derived.Test.YtcofibbgdnbejaaProg
import Derived.Test.YtcofibbgdnbejaaMvB
import Derived.Deep.AppendLies
namespace Go.Proofs.Ytcofibbgdnbejaa.Mw1
open Go.RowKit Go.Shelf
set_option linter.unusedVariables false
set_option linter.unusedSimpArgs false
/-- A state that names its own blocks: it stands when others are written. -/
structure Held {α : Type} (n₀ : Nat) (own : World → Nat → Prop) (J : List α → World → Prop) : Prop where
  lt : ∀ s W k, J s W → own W k → k < W.heap.size
  step : ∀ s W W' row, J s W → W.grownBy W' row → (∀ r, row = some r → n₀ ≤ r ∧ ¬ own W r) → J s W' ∧ ∀ k, own W' k → own W k
/-- What a round keeps: all below n₀, and each block that is not the state's own; and it stays so. -/
def Kx (n₀ : Nat) (own : World → Nat → Prop) (W W' : World) : Prop := Below n₀ W W' ∧ ∀ k, k < W.heap.size → ¬ own W k → W'.heap[k]? = W.heap[k]? ∧ ¬ own W' k
theorem Kx.trans {n₀ : Nat} {own : World → Nat → Prop} {A B C : World} (h : Kx n₀ own A B) (k : Kx n₀ own B C) : Kx n₀ own A C :=
  ⟨h.1.trans k.1, fun i hi hn => by
    obtain ⟨h1, h2⟩ := h.2 i hi hn
    obtain ⟨k1, k2⟩ := k.2 i (Nat.lt_of_lt_of_le hi h.1.size) h2
    exact ⟨k1.trans h1, k2⟩⟩
theorem below_putObj {n₀ : Nat} {W : World} {l : Nat} (hl : n₀ ≤ l) (o : Obj) : Below n₀ W (W.putObj l o) :=
  ⟨rfl, rfl, rfl, by simp, fun k hk => World.putObj_heap_other (by omega)⟩
variable {F : Fence} {P : Program} {n : Nat}
/-- The state beside the loop's two blocks of book-keeping. -/
def ownJ (ownI : World → Nat → Prop) (D : Nat) (W : World) (k : Nat) : Prop := ownI W k ∨ k = D ∨ k = D + 1
theorem range_x {α : Type} {g : Operand} {ps : Array Tmp} {assign body : Code} {Q : Exit → Act → World → Prop} {a : Act} {w : World}
    (hro : F.round = none) (h1 : 1 ≤ n) {gf : Nat} {lb : Array Value} (hg : a.eval g = .func (.func gf) #[] lb) (hFg : F.fn gf) (eg : ∀ args w, (callFunc gf args).run P w = .ok (.enter gf args) w)
    {encs : α → Array Value} {n₀ : Nat} {w0 : World} (hn : n₀ ≤ w.heap.size) (hps : ∀ x, (encs x).size = ps.size) (xs : List α)
    (own : World → Nat → Prop) (I Ix : List α → World → Prop) (hI : Held n₀ own I) (hc : ∀ s W k, I s W → own W k → ∃ o : Obj, W.heap[k]? = some o ∧ o.isCells = true)
    (hIx : ∀ s W l o o', Ix s W → w.heap.size ≤ l → W.heap[l]? = some o → o.isCells = false → Ix s (W.putObj l o')) (h0 : I [] w)
    (hseq : ∀ (l : Nat) (J Jx : List α → World → Prop) (W : World), Below w.heap.size w W → w.heap.size < W.heap.size → Held n₀ (ownJ own w.heap.size) J → (∀ k, k < w.heap.size → ¬ own w k → ¬ ownJ own w.heap.size W k) →
      (∀ pre x W1, J pre W1 → pre.length < xs.length → YieldAt F (n - 1 - 1) P l (encs x) W1 fun e W' => (e = .returned (.bool true) ∧ J (pre ++ [x]) W' ∧ Kx n₀ (ownJ own w.heap.size) W1 W') ∨ (e = .returned (.bool false) ∧ Jx (pre ++ [x]) W')) →
      J [] W → CallsIn F (n - 1) P gf (#[.func (.yield l) #[] #[]] ++ lb) W fun e W' => (∃ v, e = .returned v) ∧ (J xs W' ∨ ∃ pre, pre <+: xs ∧ Jx pre W'))
    (Ax : α → Act → World → Prop) (hAx : ∀ x a' W l o o', Ax x a' W → W.heap[l]? = some o → o.isCells = false → Ax x a' (W.putObj l o'))
    (hassign : ∀ (l : Nat) (pre : List α) (x : α) (W : World) (K : Act → World → Prop), I pre W → (∀ a' W', Kx n₀ own W W' → I pre W' → Ax x a' W' → K a' W') →
      assign.wpIn (F.inRound l) (n - 1 - 1) P (Exit.then K (fun _ _ _ => False)) { tmps := (ps.zip (encs x)).foldl (fun t (p, v) => t.setIfInBounds p v) a.tmps, defers := [] } W)
    (hbody : ∀ (l : Nat) (pre : List α) (x : α) (a' : Act) (W : World), I pre W → Ax x a' W → pre.length < xs.length → body.wpIn (F.inRound l) (n - 1 - 1) P (fun e _ W' => (e = .normal ∧ Kx n₀ own W W' ∧ I (pre ++ [x]) W') ∨ (e = .ret ∧ Kx n₀ own W W' ∧ Ix (pre ++ [x]) W')) a' W)
    (hdone : ∀ (D : Nat) (W : World), w.heap.size ≤ D → I xs W → W.heap[D]? = some (.deferred (some [])) → Q .normal { a with defers := { target := .collected D, args := #[] } :: a.defers } W)
    (hstop : ∀ (D : Nat) (pre : List α) (W : World), w.heap.size ≤ D → pre <+: xs → Ix pre W → W.heap[D]? = some (.deferred (some [])) → Code.ret.wpIn F n P Q { a with defers := { target := .collected D, args := #[] } :: a.defers } W) :
    (Code.rangeFunc g ps assign body).wpIn F n P Q a w := by
  refine wpIn_rangeFunc ?_
  intro fn hfn
  rw [hro]
  obtain ⟨rec, hrec⟩ : ∃ rec : LoopState → Option Code → Loop, rec = fun st pe => { state := st, pending := pe, fn, tmps := a.tmps, params := ps, assign, body, defers := w.heap.size } := ⟨_, rfl⟩
  obtain ⟨D, hD⟩ : ∃ D, D = w.heap.size := ⟨_, rfl⟩
  obtain ⟨V, hV⟩ : ∃ V, (w.alloc (.deferred (some []))).alloc (.loop (rec .ready none)) = V := ⟨_, rfl⟩
  have vs : V.heap.size = D + 2 := by rw [← hV, hD]; simp
  have hbV : Below D w V := by rw [← hV, hD]; exact ((Below.refl _ w).alloc (Nat.le_refl _) _).alloc (by simp) _
  have hlV : V.heap[D + 1]? = some (.loop (rec .ready none)) := by
    rw [← hV, hD]
    have := World.alloc_heap_new (w.alloc (.deferred (some []))) (.loop (rec .ready none))
    rwa [World.size_alloc] at this
  have hdV : V.heap[D]? = some (.deferred (some [])) := by rw [← hV, hD]; exact (Below.heap_alloc _ _ _ (by simp)).trans (World.alloc_heap_new w _)
  have gV : w.grownBy V none := ⟨hbV.os, hbV.tape, hbV.output, hbV.size, fun k hk _ => hbV.block k (by rw [hD]; exact hk)⟩
  have iV := hI.step [] w V none h0 gV (fun r e => by cases e)
  -- what lies under D and D + 1 is no cells: not the state's own
  have nD : ∀ {s W}, I s W → W.heap[D]? = some (.deferred (some [])) → ¬ own W D := fun hi hd ho => by
    obtain ⟨o, h2, h3⟩ := hc _ _ _ hi ho
    rw [hd] at h2
    cases h2
    cases h3
  have nL : ∀ {s W r}, I s W → W.heap[D + 1]? = some (.loop r) → ¬ own W (D + 1) := fun hi hd ho => by
    obtain ⟨o, h2, h3⟩ := hc _ _ _ hi ho
    rw [hd] at h2
    cases h2
    cases h3
  -- a turn of the loop's block
  have turn : ∀ {s W r} (o' : Obj), I s W → W.heap[D + 1]? = some (.loop r) → I s (W.putObj (D + 1) o') ∧ Kx n₀ (ownJ own D) W (W.putObj (D + 1) o') ∧ (∀ k, own (W.putObj (D + 1) o') k → own W k) := by
    intro s W r o' hi hl
    have h := hI.step s W _ (some (D + 1)) hi (grownBy_putObj' W (D + 1) o') (fun q e => by cases e; exact ⟨by omega, nL hi hl⟩)
    refine ⟨h.1, ⟨below_putObj (by omega) _, fun k hk hn => ⟨World.putObj_heap_other (fun e => hn (.inr (.inr e))), fun ho => hn (ho.elim (fun x => .inl (h.2 k x)) .inr)⟩⟩, h.2⟩
  refine ⟨D + 1, [{ target := .collected D, args := #[] }], V, { target := .fn (.func gf) lb, args := #[.func (.yield (D + 1)) #[] #[]] }, V, gf,
    #[.func (.yield (D + 1)) #[] #[]] ++ lb, V, ?_, ?_, ?_, ?_, fun _ => h1, ?_⟩
  · rw [← hV, hrec, hD]; exact run_enterLoop_outer _ _ _ _ _
  · simp only [resolve, hg]
    simp [go_sem]
  · intro f' hf'; simp [Target.leads] at hf'; subst hf'; exact hFg
  · simp [invoke, go_sem, eg]
  rw [← hD] at hseq
  refine (hseq (D + 1)
    (fun pre W => I pre W ∧ W.heap[D + 1]? = some (.loop (rec .ready none)) ∧ W.heap[D]? = some (.deferred (some [])))
    (fun pre W => Ix pre W ∧ W.heap[D + 1]? = some (.loop (rec .done (some .ret))) ∧ W.heap[D]? = some (.deferred (some [])))
    V hbV (by omega) ⟨?_, ?_⟩ ?_ ?_ ⟨iV.1, hlV, hdV⟩).mono ?_
  · rintro s W k ⟨hi, hl, hd⟩ (ho | rfl | rfl)
    · exact hI.lt s W k hi ho
    · exact (Array.getElem?_eq_some_iff.1 hd).1
    · exact (Array.getElem?_eq_some_iff.1 hl).1
  · rintro s W W' row ⟨hi, hl, hd⟩ hgr hr
    have h := hI.step s W W' row hi hgr (fun r e => ⟨(hr r e).1, fun ho => (hr r e).2 (.inl ho)⟩)
    refine ⟨⟨h.1, (hgr.block _ (Array.getElem?_eq_some_iff.1 hl).1 (fun e => ?_)).trans hl, (hgr.block _ (Array.getElem?_eq_some_iff.1 hd).1 (fun e => ?_)).trans hd⟩, fun k ho => ho.elim (fun x => .inl (h.2 k x)) .inr⟩
    · exact (hr _ e.symm).2 (.inr (.inr rfl))
    · exact (hr _ e.symm).2 (.inr (.inl rfl))
  · rintro k hk hnk (ho | rfl | rfl)
    · exact hnk (iV.2 k ho)
    · omega
    · omega
  · -- one round
    rintro pre x W ⟨hi, hl, hd⟩ hlen
    have hy := run_yield (P := P) (args := encs x) hl (by rw [hrec]; exact hps x)
    rw [hrec] at hy
    refine ⟨fn, _, assign, body, hy, roundIn_of_wpIn hfn (hassign _ pre x W _ hi ?_)⟩
    clear hy
    intro a' Wa hka hia hax
    have hl1 : Wa.heap[D + 1]? = some (.loop (rec .ready none)) := (hka.2 _ (Array.getElem?_eq_some_iff.1 hl).1 (nL hi hl)).1.trans hl
    have hd1 : Wa.heap[D]? = some (.deferred (some [])) := (hka.2 _ (Array.getElem?_eq_some_iff.1 hd).1 (nD hi hd)).1.trans hd
    have liftK : ∀ {X Y : World}, Kx n₀ own X Y → Kx n₀ (ownJ own D) X Y := fun h => ⟨h.1, fun k hk hn => by
      obtain ⟨p, q⟩ := h.2 k hk (fun ho => hn (.inl ho))
      exact ⟨p, fun ho => ho.elim q (fun e => hn (.inr e))⟩⟩
    refine ⟨_, run_beginRound hl1 (by rw [hrec]), ?_⟩
    obtain ⟨B, hB⟩ : ∃ B, Wa.putObj (D + 1) (.loop { rec .ready none with state := .busy }) = B := ⟨_, rfl⟩
    have hlB : B.heap[D + 1]? = some (.loop { rec .ready none with state := .busy }) := by rw [← hB]; exact World.putObj_heap_same (Array.getElem?_eq_some_iff.1 hl1).1
    have hdB : B.heap[D]? = some (.deferred (some [])) := by rw [← hB]; exact (World.putObj_heap_other (by omega)).trans hd1
    have tB := turn (.loop { rec .ready none with state := .busy }) hia hl1
    have axB := hAx x a' Wa (D + 1) _ (.loop { rec .ready none with state := .busy }) hax hl1 rfl
    rw [hB] at tB axB ⊢
    refine wpIn_mono (hbody _ pre x a' B tB.1 axB hlen) ?_
    rintro e a3 W3 (⟨rfl, hk3, hi3⟩ | ⟨rfl, hk3, hi3⟩)
    · have hl3 : W3.heap[D + 1]? = some (.loop { rec .ready none with state := .busy }) := (hk3.2 _ (Array.getElem?_eq_some_iff.1 hlB).1 (nL tB.1 hlB)).1.trans hlB
      have hd3 : W3.heap[D]? = some (.deferred (some [])) := (hk3.2 _ (Array.getElem?_eq_some_iff.1 hdB).1 (nD tB.1 hdB)).1.trans hdB
      have t3 := turn (.loop (rec .ready none)) hi3 hl3
      have hr := run_endRound (P := P) none hl3
      rw [hrec] at hr hl3
      refine ⟨_, _, hr, .inl ⟨rfl, ⟨?_, ?_, ?_⟩, ?_⟩⟩
      · rw [hrec] at t3; exact t3.1
      · rw [hrec]; exact World.putObj_heap_same (Array.getElem?_eq_some_iff.1 hl3).1
      · exact (World.putObj_heap_other (by omega)).trans hd3
      · rw [hrec] at t3; exact (liftK hka).trans (tB.2.1.trans ((liftK hk3).trans t3.2.1))
    · have hl3 : W3.heap[D + 1]? = some (.loop { rec .ready none with state := .busy }) := (hk3.2 _ (Array.getElem?_eq_some_iff.1 hlB).1 (nL tB.1 hlB)).1.trans hlB
      have hd3 : W3.heap[D]? = some (.deferred (some [])) := (hk3.2 _ (Array.getElem?_eq_some_iff.1 hdB).1 (nD tB.1 hdB)).1.trans hdB
      have hr := run_endRound (P := P) (some .ret) hl3
      have x3 := hIx _ W3 (D + 1) _ (.loop (rec .done (some .ret))) hi3 (by omega) hl3 rfl
      rw [hrec] at hr hl3
      refine ⟨_, _, hr, .inr ⟨rfl, ?_, ?_, ?_⟩⟩
      · rw [hrec] at x3; exact x3
      · rw [hrec]; exact World.putObj_heap_same (Array.getElem?_eq_some_iff.1 hl3).1
      · exact (World.putObj_heap_other (by omega)).trans hd3
  · rintro e W2 ⟨⟨v, rfl⟩, (⟨hi, hl, hd⟩ | ⟨pre, hpre, hx, hl, hd⟩)⟩
    · exact ⟨none, _, by have := run_endLoop (P := P) hl (by rw [hrec]; simp); rw [hrec] at this; exact this, hdone D _ (by omega) (turn _ hi hl).1 ((World.putObj_heap_other (by omega)).trans hd)⟩
    · exact ⟨some .ret, _, by have := run_endLoop (P := P) hl (by rw [hrec]; simp); rw [hrec] at this; exact this, hstop D pre _ (by omega) hpre (hIx _ _ _ _ _ hx (by omega) hl rfl) ((World.putObj_heap_other (by omega)).trans hd)⟩
end Go.Proofs.Ytcofibbgdnbejaa.Mw1
namespace Go.Proofs.Ytcofibbgdnbejaa.Mw2
open Go.RowKit Go.Shelf Go.Proofs.YtcofibbgdnbejaaW.PrintWords Go.Proofs.YtcofibbgdnbejaaW.PrintLast Go.Proofs.YtcofibbgdnbejaaW.PrintMore Go.Proofs.Ytcofibbgdnbejaa.Ints Go.Proofs.Ytcofibbgdnbejaa.Mv1 Go.Proofs.Ytcofibbgdnbejaa.Mv2 Go.Proofs.Ytcofibbgdnbejaa.Mv3 Go.Proofs.Ytcofibbgdnbejaa.Mv11 Go.Proofs.Ytcofibbgdnbejaa.Mw1
set_option linter.unusedVariables false
set_option linter.unusedSimpArgs false
def lens (k : Int) : List Int := if k = 3 then [2, 3] else [0]
def mo (k a i b j n : Int) : MS := (k, a, i, b, j, n)
def fr4 (is : MS → Bool) (k a i b j : Int) (ns : List Int) : List MS := (ns.map fun n => mo k a i b j n).filter is
def fr3 (is : MS → Bool) (k a i b : Int) (m : Nat) : List MS := (List.range m).flatMap fun (j : Nat) => fr4 is k a i b (j : Int) (lens k)
def fr2 (is : MS → Bool) (rs : List Rt) (k a i : Int) (m : Nat) : List MS := (List.range m).flatMap fun (b : Nat) => fr3 is k a i (b : Int) ((st rs b).length + 1)
def ea3 (is : MS → Bool) (rs : List Rt) (k a : Int) (m : Nat) : List MS := (List.range m).flatMap fun (i : Nat) => fr2 is rs k a (i : Int) rs.length
def ea2 (is : MS → Bool) (rs : List Rt) (k : Int) (m : Nat) : List MS := (List.range m).flatMap fun (a : Nat) => ea3 is rs k (a : Int) ((st rs a).length + 1)
def ea1 (is : MS → Bool) (rs : List Rt) (m : Nat) : List MS := (List.range m).flatMap fun (q : Nat) => ea2 is rs ((q : Int) + 1) rs.length
def allM (is : MS → Bool) (rs : List Rt) : List MS := ea1 is rs 5
theorem fm_succ (f : Nat → List MS) (m : Nat) : (List.range (m + 1)).flatMap f = (List.range m).flatMap f ++ f m := by simp [List.range_succ]
theorem fm_pre (f : Nat → List MS) {m n : Nat} (h : m ≤ n) : (List.range m).flatMap f <+: (List.range n).flatMap f := by
  induction n with
  | zero => rw [show m = 0 by omega]; exact List.prefix_refl _
  | succ n ih =>
    by_cases e : m = n + 1
    · rw [e]; exact List.prefix_refl _
    · rw [fm_succ]
      exact (ih (by omega)).trans (List.prefix_append _ _)
theorem fm_step (f : Nat → List MS) {m n : Nat} (h : m < n) : (List.range m).flatMap f ++ f m <+: (List.range n).flatMap f := by
  rw [← fm_succ]
  exact fm_pre f h
theorem pre_app {a b c : List MS} (h : b <+: c) : a ++ b <+: a ++ c := (List.prefix_append_right_inj a).2 h
theorem fr4_cons (is : MS → Bool) (k a i b j n : Int) (ns : List Int) : fr4 is k a i b j (ns ++ [n]) = fr4 is k a i b j ns ++ (if is (mo k a i b j n) = true then [mo k a i b j n] else []) := by
  unfold fr4
  rw [List.map_append, List.filter_append]
  cases h : is (mo k a i b j n) <;> simp [h]
theorem fr4_pre (is : MS → Bool) (k a i b j : Int) (ns : List Int) (m : Nat) : fr4 is k a i b j (ns.take m) <+: fr4 is k a i b j ns := by
  conv => rhs; rw [← List.take_append_drop m ns]
  unfold fr4
  rw [List.map_append, List.filter_append]
  exact List.prefix_append _ _
/-- A block of the iterator's own: no block of the state's. -/
def Mine (own : World → Nat → Prop) (W : World) (g : Nat) (cs : Array Value) (t : TypeId) : Prop := W.heap[g]? = some (.cells cs t (0, 0)) ∧ ¬ own W g
section
variable {n₀ : Nat} {own : World → Nat → Prop} {J : List MS → World → Prop} {W W' : World} {pre : List MS}
theorem Mine.lt {g : Nat} {cs : Array Value} {t : TypeId} (h : Mine own W g cs t) : g < W.heap.size := (Array.getElem?_eq_some_iff.1 h.1).1
theorem Mine.kx {g : Nat} {cs : Array Value} {t : TypeId} (h : Mine own W g cs t) (hk : Kx n₀ own W W') : Mine own W' g cs t := ⟨(hk.2 g h.lt h.2).1.trans h.1, (hk.2 g h.lt h.2).2⟩
theorem Mine.cell {g : Nat} {cs : Array Value} {t : TypeId} (h : Mine own W g cs t) (i : Nat) : W.cell? ⟨g, i, none⟩ = cs[i]? := blk_cell h.1 i
theorem Mine.frozen {g : Nat} {cs : Array Value} {t : TypeId} (h : Mine own W g cs t) (i : Nat) : W.frozen? ⟨g, i, none⟩ = false := blk_frozen h.1 i
/-- New blocks. -/
theorem grow (hJ : Held n₀ own J) (hj : J pre W) (hn : n₀ ≤ W.heap.size) (hb : Below W.heap.size W W') : J pre W' ∧ Kx n₀ own W W' := by
  have h := hJ.step pre W W' none hj ⟨hb.os, hb.tape, hb.output, hb.size, fun k hk _ => hb.block k hk⟩ (fun r e => by cases e)
  exact ⟨h.1, hb.mono hn, fun k hk hno => ⟨hb.block k hk, fun ho => hno (h.2 k ho)⟩⟩
theorem mine_new (hJ : Held n₀ own J) (hj : J pre W) (cs : Array Value) (t : TypeId) : Mine own (W.alloc (.cells cs t)) W.heap.size cs t := by
  refine ⟨World.alloc_heap_new W _, fun ho => ?_⟩
  have h := hJ.step pre W _ none hj (World.grownBy_alloc W (.cells cs t) none) (fun r e => by cases e)
  have := hJ.lt pre W _ hj (h.2 _ ho)
  omega
theorem fresh_not (hJ : Held n₀ own J) (hj : J pre W) (hb : Below W.heap.size W W') {g : Nat} (hg : W.heap.size ≤ g) : ¬ own W' g := fun ho => by
  have h := hJ.step pre W W' none hj ⟨hb.os, hb.tape, hb.output, hb.size, fun k hk _ => hb.block k hk⟩ (fun r e => by cases e)
  have := hJ.lt pre W _ hj (h.2 _ ho)
  omega
/-- A store into a block of the iterator's own. -/
theorem mine_set (hJ : Held n₀ own J) (hj : J pre W) {g : Nat} {cs : Array Value} {t : TypeId} (h : Mine own W g cs t) (hn : n₀ ≤ g) (i : Nat) (v : Value) : J pre (W.setCell ⟨g, i, none⟩ v) ∧ Mine own (W.setCell ⟨g, i, none⟩ v) g (cs.setIfInBounds i v) t ∧ (∀ k, k ≠ g → k < W.heap.size → ¬ own W k → (W.setCell ⟨g, i, none⟩ v).heap[k]? = W.heap[k]? ∧ ¬ own (W.setCell ⟨g, i, none⟩ v) k) := by
  have hg : W.grownBy (W.setCell ⟨g, i, none⟩ v) (some g) := grown_set W g i [v]
  have hs := hJ.step pre W _ (some g) hj hg (fun r e => by cases e; exact ⟨hn, h.2⟩)
  exact ⟨hs.1, ⟨blk_set h.1 i v, fun ho => h.2 (hs.2 _ ho)⟩, fun k hk hl hno => ⟨Below.heap_setCell W ⟨g, i, none⟩ v k hk, fun ho => hno (hs.2 _ ho)⟩⟩
theorem Mine.other (hJ : Held n₀ own J) (hj : J pre W) {g g' : Nat} {cs cs' : Array Value} {t t' : TypeId} (h : Mine own W g cs t) (h' : Mine own W g' cs' t') (hne : g' ≠ g) (hn : n₀ ≤ g) (i : Nat) (v : Value) : Mine own (W.setCell ⟨g, i, none⟩ v) g' cs' t' := by
  obtain ⟨_, _, h3⟩ := mine_set hJ hj h hn i v
  obtain ⟨q1, q2⟩ := h3 g' hne h'.lt h'.2
  exact ⟨q1.trans h'.1, q2⟩
theorem kx_set (hJ : Held n₀ own J) (hj : J pre W) {g : Nat} {cs : Array Value} {t : TypeId} (h : Mine own W g cs t) (hn : n₀ ≤ g) (i : Nat) (v : Value) {V : World} (hV : V.heap.size ≤ g) (hk : Kx n₀ own V W) : Kx n₀ own V (W.setCell ⟨g, i, none⟩ v) := by
  obtain ⟨_, _, h3⟩ := mine_set hJ hj h hn i v
  refine ⟨hk.1.setCell (p := ⟨g, i, none⟩) hn v, fun k hk' hno => ?_⟩
  obtain ⟨q1, q2⟩ := hk.2 k hk' hno
  obtain ⟨r1, r2⟩ := h3 k (by omega) (Nat.lt_of_lt_of_le hk' hk.1.size) q2
  exact ⟨r1.trans q1, r2⟩
theorem set3 (hJ : Held n₀ own J) (hj : J pre W) {g g' : Nat} {a b c x y z x' y' z' : Value} {cs' : Array Value} {t t' : TypeId} (h : Mine own W g #[a, b, c, x, y, z] t) (h' : Mine own W g' cs' t') (hne : g' ≠ g) (hn : n₀ ≤ g) {V : World} (hV : V.heap.size ≤ g) (hk : Kx n₀ own V W) :
    J pre (((W.setCell ⟨g, 3, none⟩ x').setCell ⟨g, 4, none⟩ y').setCell ⟨g, 5, none⟩ z') ∧ Mine own (((W.setCell ⟨g, 3, none⟩ x').setCell ⟨g, 4, none⟩ y').setCell ⟨g, 5, none⟩ z') g #[a, b, c, x', y', z'] t ∧ Mine own (((W.setCell ⟨g, 3, none⟩ x').setCell ⟨g, 4, none⟩ y').setCell ⟨g, 5, none⟩ z') g' cs' t' ∧ Kx n₀ own V (((W.setCell ⟨g, 3, none⟩ x').setCell ⟨g, 4, none⟩ y').setCell ⟨g, 5, none⟩ z') := by
  have a1 := mine_set hJ hj h hn 3 x'
  have b1 := Mine.other hJ hj h h' hne hn 3 x'
  have k1 := kx_set hJ hj h hn 3 x' hV hk
  have a2 := mine_set hJ a1.1 a1.2.1 hn 4 y'
  have b2 := Mine.other hJ a1.1 a1.2.1 b1 hne hn 4 y'
  have k2 := kx_set hJ a1.1 a1.2.1 hn 4 y' hV k1
  have a3 := mine_set hJ a2.1 a2.2.1 hn 5 z'
  exact ⟨a3.1, a3.2.1, Mine.other hJ a2.1 a2.2.1 b2 hne hn 5 z', kx_set hJ a2.1 a2.2.1 hn 5 z' hV k2⟩
end
theorem wrap_ok {k m : Nat} (h : m ≤ maxLen) (hk : k < m) : wrap64 ((k : Int) + 1) = ((k + 1 : Nat) : Int) := by
  unfold maxLen at h
  unfold wrap64
  omega
end Go.Proofs.Ytcofibbgdnbejaa.Mw2
namespace Go.Proofs.Ytcofibbgdnbejaa.Mw3
open Go.RowKit Go.Shelf Go.Proofs.YtcofibbgdnbejaaW.PrintWords Go.Proofs.YtcofibbgdnbejaaW.PrintLast Go.Proofs.YtcofibbgdnbejaaW.PrintMore Go.Proofs.Ytcofibbgdnbejaa.Ints Go.Proofs.Ytcofibbgdnbejaa.Mv1 Go.Proofs.Ytcofibbgdnbejaa.Mv2 Go.Proofs.Ytcofibbgdnbejaa.Mv3 Go.Proofs.Ytcofibbgdnbejaa.Mv11 Go.Proofs.Ytcofibbgdnbejaa.Mw1 Go.Proofs.Ytcofibbgdnbejaa.Mw2
attribute [local go_sem] Oper.semAt_some
set_option linter.unusedVariables false
set_option linter.unusedSimpArgs false
theorem lens_ (k : Int) (w : World) : Calls Try.prog 46 #[.int .i64 k] w fun e w' => ∃ g, e = .returned (.slice (some ⟨g, 0, none⟩) (lens k).length (lens k).length) ∧ w'.heap[g]? = some (.cells (es (lens k)).toArray 3 (0, 0)) ∧ w.heap.size ≤ g ∧ Below w.heap.size w w' := by
  by_cases h : k = 3
  · have q1 : (k == 3) = true := beq_iff_eq.mpr h
    have e : lens k = [2, 3] := if_pos h
    rw [e]
    clear h e
    go_enter Try.func46, Try.ntmps46
    go_wp2
    go_ret
    exact ⟨_, rfl, World.alloc_heap_new _ _, Nat.le_refl _, (Below.refl _ w).alloc (Nat.le_refl _) _⟩
  · have q1 : (k == 3) = false := beq_eq_false_iff_ne.mpr h
    have e : lens k = [0] := if_neg h
    rw [e]
    clear h e
    go_enter Try.func46, Try.ntmps46
    go_wp2
    go_ret
    exact ⟨_, rfl, World.alloc_heap_new _ _, Nat.le_refl _, (Below.refl _ w).alloc (Nat.le_refl _) _⟩
theorem round_any {n m : Nat} {P : Program} {l : Nat} {f : FuncId} {tmps : Array Value} {assign body : Code} {w : World} {R : Ending → World → Prop} (h : RoundIn Fence.wide n P l f tmps assign body w R) : RoundIn Fence.wide m P l f tmps assign body w R := ⟨h.1, fun c cs _ => h.2 c cs (room_wide _)⟩
theorem yield_any {n m : Nat} {P : Program} {l : Nat} {args : Array Value} {W : World} {R : Ending → World → Prop} (h : YieldAt Fence.wide n P l args W R) : YieldAt Fence.wide m P l args W R := by
  obtain ⟨fn, tmps, assign, body, h1, h2⟩ := h
  exact ⟨fn, tmps, assign, body, h1, round_any h2⟩
def encM (x : MS) : Array Value := #[.agg #[.int .i64 x.1, .int .i64 x.2.1, .int .i64 x.2.2.1, .int .i64 x.2.2.2.1, .int .i64 x.2.2.2.2.1, .int .i64 x.2.2.2.2.2]]
end Go.Proofs.Ytcofibbgdnbejaa.Mw3
namespace Go.Proofs.Ytcofibbgdnbejaa.Mw4
open Go.RowKit Go.Shelf Go.Proofs.YtcofibbgdnbejaaW.PrintWords Go.Proofs.YtcofibbgdnbejaaW.PrintLast Go.Proofs.YtcofibbgdnbejaaW.PrintMore Go.Proofs.Ytcofibbgdnbejaa.Ints Go.Proofs.Ytcofibbgdnbejaa.Mv1 Go.Proofs.Ytcofibbgdnbejaa.Mv2 Go.Proofs.Ytcofibbgdnbejaa.Mv3 Go.Proofs.Ytcofibbgdnbejaa.Mv11 Go.Proofs.Ytcofibbgdnbejaa.Mw1 Go.Proofs.Ytcofibbgdnbejaa.Mw2 Go.Proofs.Ytcofibbgdnbejaa.Mw3
attribute [local go_sem] Oper.semAt_some
set_option linter.unusedVariables false
set_option linter.unusedSimpArgs false
set_option maxRecDepth 100000 in
set_option maxHeartbeats 8000000 in
theorem from_in (nn : Nat) (hnn : 1 ≤ nn) (d l : Nat) (w0 : World) (A : Option Addr) (c : Nat) (rs : List Rt) (is : MS → Bool) (k a i b0 j0 n0 : Int) (hC : Kd.C kdp w0 A rs.length rs) (hst : ∀ j, (st rs j).length ≤ 1000000)
    (hap : ∀ (b j n : Int) W, Below w0.heap.size w0 W → Calls Try.prog 10 #[.slice A rs.length c, .agg #[.int .i64 k, .int .i64 a, .int .i64 i, .int .i64 b, .int .i64 j, .int .i64 n]] W fun e W' => ∃ v0, e = .returned (.tuple #[v0, .bool (is (mo k a i b j n))]) ∧ Below W.heap.size W W')
    (own : World → Nat → Prop) (J Jx : List MS → World → Prop) (hJ : Held w0.heap.size own J) (xs pre0 : List MS) (hpre : pre0 ++ fr2 is rs k a i rs.length <+: xs)
    (hY : ∀ pre x W, J pre W → pre.length < xs.length → YieldAt Fence.wide d Try.prog l (encM x) W fun e W' => (e = .returned (.bool true) ∧ J (pre ++ [x]) W' ∧ Kx w0.heap.size own W W') ∨ (e = .returned (.bool false) ∧ Jx (pre ++ [x]) W'))
    (W : World) (hW0 : Below w0.heap.size w0 W) (h0 : J pre0 W) :
    CallsIn Fence.wide nn Try.prog 38 #[.slice A rs.length c, .agg #[.int .i64 k, .int .i64 a, .int .i64 i, .int .i64 b0, .int .i64 j0, .int .i64 n0], .func (.yield l) #[] #[]] W fun e W' =>
      (e = .returned (.bool true) ∧ J (pre0 ++ fr2 is rs k a i rs.length) W' ∧ Kx w0.heap.size own W W') ∨ (e = .returned (.bool false) ∧ ∃ pre, pre <+: xs ∧ Jx pre W') := by
  refine callsIn_of_wp Try.func38 rfl trivial ?_ rfl
  simp only [Try.ntmps38, List.size_toArray, List.length_cons, List.length_nil, Nat.reduceAdd, Nat.reduceSub, Array.replicate_succ, Array.replicate_zero, List.push_toArray, List.append_toArray, List.nil_append, List.cons_append]
  gi_wp2
  have m4 := mine_new hJ h0 #[.int .i64 k, .int .i64 a, .int .i64 i, .int .i64 b0, .int .i64 j0, .int .i64 n0] 29
  obtain ⟨hJ1, hK1⟩ := grow hJ h0 hW0.size ((Below.refl _ W).alloc (Nat.le_refl _) (.cells #[.int .i64 k, .int .i64 a, .int .i64 i, .int .i64 b0, .int .i64 j0, .int .i64 n0] 29))
  generalize W.alloc (.cells #[.int .i64 k, .int .i64 a, .int .i64 i, .int .i64 b0, .int .i64 j0, .int .i64 n0] 29) = W1 at m4 hJ1 hK1 ⊢
  have h4 := hW0.size
  obtain ⟨g4, hg4⟩ : ∃ g, g = W.heap.size := ⟨_, rfl⟩
  rw [← hg4] at m4 ⊢
  have HG4 := Aside0.mk hg4
  clear hg4
  gi_loopw [16] (fun v wr => ∃ q : Nat, q ≤ rs.length ∧ v = .int .i64 (q : Int) ∧ J (pre0 ++ fr2 is rs k a i q) wr ∧ Kx w0.heap.size own W wr ∧ ∃ x y z : Int, Mine own wr g4 #[.int .i64 k, .int .i64 a, .int .i64 i, .int .i64 x, .int .i64 y, .int .i64 z] 29)
    (fun v _ => rs.length - (intOf v).toNat)
  case atStart => exact ⟨0, Nat.zero_le _, rfl, by simpa [fr2] using hJ1, hK1, _, _, _, m4⟩
  case round =>
    clear m4 hJ1 hK1
    obtain ⟨q, hql, rfl, hj, hk, x, y, z, m4⟩ := hrel
    by_cases hlt : q < rs.length
    · obtain ⟨ad, A1, c1, rfl, q0, q1, hci⟩ := at_R (Kd.C_below hC (hW0.trans hk.1)) (q : Int) (by omega) (by omega)
      obtain ⟨m, hm⟩ : ∃ m, m = (st rs q).length := ⟨_, rfl⟩
      obtain ⟨T, hT⟩ : ∃ T, T = tr rs q := ⟨_, rfl⟩
      replace q0 : wr.cell? (ad.add (q * 2)) = some (.int .i64 T) := by rw [hT]; exact q0
      replace q1 : wr.cell? ⟨(ad.add (q * 2)).block, (ad.add (q * 2)).off + 1, none⟩ = some (.slice A1 m c1) := by rw [hm]; exact q1
      have hmm := hst q
      rw [← hm] at hmm
      have HM := Aside0.mk hm
      clear hm hT
      have hw : wrap64 ((m : Int) + 1) = ((m + 1 : Nat) : Int) := by unfold wrap64; omega
      have t1 : (q : Int) < (rs.length : Int) := by omega
      clear hci
      gi_wp2
      obtain ⟨hj2, hk2⟩ := grow hJ hj (Nat.le_trans hW0.size hk.1.size) ((Below.refl _ wr).alloc (Nat.le_refl _) (.cells #[.int .i64 T, .slice A1 m c1] 35))
      replace m4 := m4.kx hk2
      replace hk := hk.trans hk2
      have hg8 := hk.1.size
      generalize wr.alloc (.cells #[.int .i64 T, .slice A1 m c1] 35) = W2 at m4 hj2 hk ⊢
      generalize wr.heap.size = g8
      obtain ⟨p2, hp2⟩ : ∃ p, p = pre0 ++ fr2 is rs k a i q := ⟨_, rfl⟩
      have hpp : p2 ++ fr3 is k a i (q : Int) (m + 1) <+: xs := by
        refine List.IsPrefix.trans ?_ hpre
        rw [hp2, HM.out, List.append_assoc]
        exact pre_app (fm_step _ hlt)
      have hp3 : pre0 ++ fr2 is rs k a i (q + 1) = p2 ++ fr3 is k a i (q : Int) (m + 1) := by
        rw [hp2, HM.out, List.append_assoc]
        congr 1
        exact fm_succ _ _
      rw [← hp2] at hj2
      clear q0 q1 hj hk2 hp2
      gi_loopw [25] (fun v wr => ∃ r : Nat, r ≤ m + 1 ∧ v = .int .i64 (r : Int) ∧ J (p2 ++ fr3 is k a i (q : Int) r) wr ∧ Kx w0.heap.size own W wr ∧ ∃ x y z : Int, Mine own wr g4 #[.int .i64 k, .int .i64 a, .int .i64 i, .int .i64 x, .int .i64 y, .int .i64 z] 29)
        (fun v _ => m + 1 - (intOf v).toNat)
      case atStart => exact ⟨0, Nat.zero_le _, rfl, by simpa [fr3] using hj2, hk, _, _, _, m4⟩
      case round =>
        clear m4 hj2 hk
        obtain ⟨r, hrl, rfl, hj, hk, x, y, z, m4⟩ := hrel
        by_cases hrt : r < m + 1
        · have t2 : (r : Int) < ((m + 1 : Nat) : Int) := by omega
          have hc0 := (m4.cell 0).trans rfl
          gi_wp2_with (refine ⟨trivial, ?_⟩; gi_at_call 46; refine (callsIn_wide.2 (lens_ k _)).mono ?_; rintro e W3 ⟨g3, rfl, hg3, hge, hb3⟩)
          have m3 : Mine own W3 g3 (es (lens k)).toArray 3 := ⟨hg3, fresh_not hJ hj hb3 hge⟩
          obtain ⟨hj3, hk3⟩ := grow hJ hj (Nat.le_trans hW0.size hk.1.size) hb3
          replace m4 := m4.kx hk3
          replace hk := hk.trans hk3
          have hne : g4 ≠ g3 := by
            intro e
            have e1 := m4.1
            rw [e, m3.1] at e1
            simp at e1
          clear hc0 hg3 hb3 hge
          obtain ⟨ns, hns⟩ : ∃ ns, ns = lens k := ⟨_, rfl⟩
          have hnl : ns.length ≤ 2 := by rw [hns]; unfold lens; split <;> simp
          rw [← hns] at m3 ⊢
          obtain ⟨p3, hp3_⟩ : ∃ p, p = p2 ++ fr3 is k a i (q : Int) r := ⟨_, rfl⟩
          have hpq : p3 ++ fr4 is k a i (q : Int) (r : Int) ns <+: xs := by
            refine List.IsPrefix.trans ?_ hpp
            rw [hp3_, hns, List.append_assoc]
            exact pre_app (fm_step _ hrt)
          have hp4 : p2 ++ fr3 is k a i (q : Int) (r + 1) = p3 ++ fr4 is k a i (q : Int) (r : Int) ns := by
            rw [hp3_, hns, List.append_assoc]
            congr 1
            exact fm_succ _ _
          rw [← hp3_] at hj3
          have HNS := Aside0.mk hns
          clear hj hk3 hp3_ hns t2
          gi_loopw [32] (fun v wr => ∃ s : Nat, s ≤ ns.length ∧ v = .int .i64 (s : Int) ∧ J (p3 ++ fr4 is k a i (q : Int) (r : Int) (ns.take s)) wr ∧ Kx w0.heap.size own W wr ∧ (∃ x y z : Int, Mine own wr g4 #[.int .i64 k, .int .i64 a, .int .i64 i, .int .i64 x, .int .i64 y, .int .i64 z] 29) ∧ Mine own wr g3 (es ns).toArray 3)
            (fun v _ => ns.length - (intOf v).toNat)
          case atStart => exact ⟨0, Nat.zero_le _, rfl, by simpa [fr4] using hj3, hk, ⟨_, _, _, m4⟩, m3⟩
          case round =>
            clear m4 hj3 hk m3
            obtain ⟨s, hsl, rfl, hj, hk, ⟨x, y, z, m4⟩, m3⟩ := hrel
            by_cases hsn : s < ns.length
            · have t3 : (s : Int) < (ns.length : Int) := by omega
              obtain ⟨u, hu⟩ : ∃ u, u = ns[s] := ⟨_, rfl⟩
              have htk : ns.take (s + 1) = ns.take s ++ [u] := by rw [hu, List.take_add_one, List.getElem?_eq_getElem hsn]; rfl
              have hcs : wr.cell? ⟨g3, s, none⟩ = some (.int .i64 u) := (m3.cell s).trans (by rw [hu]; simp [es, encs, hsn])
              have hc0 := (m4.cell 0).trans rfl
              have hc1 := (m4.cell 1).trans rfl
              have hc2 := (m4.cell 2).trans rfl
              have hc3 := (m4.cell 3).trans rfl
              have hc4 := (m4.cell 4).trans rfl
              have hc5 := (m4.cell 5).trans rfl
              have hf3 := m4.frozen 3
              have hf4 := m4.frozen 4
              have hf5 := m4.frozen 5
              have hn4 : w0.heap.size ≤ g4 := by rw [HG4.out]; exact h4
              obtain ⟨hjS, mS, m3S, kS⟩ := set3 (x' := .int .i64 (q : Int)) (y' := .int .i64 (r : Int)) (z' := .int .i64 u) hJ hj m4 m3 (Ne.symm hne) hn4 (by rw [HG4.out]; exact Nat.le_refl _) hk
              have HBS := hW0.trans kS.1
              have HMM := Aside0.mk hmm
              clear hu hmm
              cases his : is (mo k a i (q : Int) (r : Int) u)
              · gi_wp2_with (first | (refine ⟨trivial, ?_⟩; gi_at_call 10; refine (callsIn_wide.2 (hap (q : Int) (r : Int) u _ HBS)).mono ?_; rintro e W5 ⟨v0, rfl, hb5⟩) | (with_reducible refine And.intro (fun _ e => by cases e) ?_))
                obtain ⟨hj5, hk5⟩ := grow hJ hjS (Nat.le_trans hW0.size kS.1.size) hb5
                refine ⟨⟨s + 1, hsn, by simp, ?_, kS.trans hk5, ⟨_, _, _, mS.kx hk5⟩, m3S.kx hk5⟩, by simp [intOf]; omega⟩
                rw [htk, fr4_cons, his]
                simpa using hj5
              · have hpx : p3 ++ fr4 is k a i (q : Int) (r : Int) (ns.take s) ++ [mo k a i (q : Int) (r : Int) u] <+: xs := by
                  refine List.IsPrefix.trans ?_ hpq
                  rw [List.append_assoc]
                  refine pre_app ?_
                  have e := fr4_cons is k a i (q : Int) (r : Int) u (ns.take s)
                  rw [his, ← htk] at e
                  simp only [if_true] at e
                  rw [← e]
                  exact fr4_pre is k a i (q : Int) (r : Int) ns (s + 1)
                have hlen : (p3 ++ fr4 is k a i (q : Int) (r : Int) (ns.take s)).length < xs.length := by
                  have := hpx.length_le
                  rw [List.length_append] at this
                  simp only [List.length_cons, List.length_nil] at this
                  omega
                have HPX := Aside0.mk hpx
                have HLEN := Aside0.mk hlen
                clear hpx hlen
                gi_wp2_with (first | (refine ⟨trivial, ?_⟩; gi_at_call 10; refine (callsIn_wide.2 (hap (q : Int) (r : Int) u _ HBS)).mono ?_; rintro e W5 ⟨v0, rfl, hb5⟩; obtain ⟨hj5, hk5⟩ := grow hJ hjS (Nat.le_trans hW0.size kS.1.size) hb5; have m45 := mS.kx hk5; have m35 := m3S.kx hk5; have d0 := (m45.cell 0).trans rfl; have d1 := (m45.cell 1).trans rfl; have d2 := (m45.cell 2).trans rfl; have d3 := (m45.cell 3).trans rfl; have d4 := (m45.cell 4).trans rfl; have d5 := (m45.cell 5).trans rfl; obtain ⟨fn, tm, asg, bod, hy, hR⟩ := yield_any (m := nn - 1) (hY _ (mo k a i (q : Int) (r : Int) u) W5 hj5 HLEN.out); dsimp only [encM, mo] at hy) | (with_reducible refine And.intro (fun _ e => by cases e) ?_))
                refine hR.mono ?_
                rintro e W6 (⟨rfl, hj6, hk6⟩ | ⟨rfl, hjx⟩)
                · gi_wp2_with (with_reducible refine And.intro (fun _ e => by cases e) ?_)
                  refine ⟨⟨s + 1, hsn, by simp, ?_, (kS.trans hk5).trans hk6, ⟨_, _, _, m45.kx hk6⟩, m35.kx hk6⟩, by simp [intOf]; omega⟩
                  rw [htk, fr4_cons, his, ← List.append_assoc]
                  simpa using hj6
                · gi_wp2_with (with_reducible refine And.intro (fun _ e => by cases e) ?_)
                  go_ret
                  exact .inr ⟨rfl, _, HPX.out, hjx⟩
            · obtain rfl : s = ns.length := by omega
              have t3 : ((ns.length : Int) < (ns.length : Int)) = False := eq_false (by omega)
              gi_wp2
              rw [List.take_length] at hj
              refine ⟨⟨r + 1, hrt, by simp, ?_, hk, _, _, _, m4⟩, by simp [intOf]; omega⟩
              rw [hp4]
              exact hj
        · obtain rfl : r = m + 1 := by omega
          have t2 : ((((m + 1 : Nat) : Int)) < (m : Int) + 1) = False := eq_false (by omega)
          gi_wp2
          rw [wrap_ok hC.2.1 hlt]
          refine ⟨⟨q + 1, hlt, rfl, ?_, hk, _, _, _, m4⟩, by simp only [intOf, Int.toNat_natCast]; omega⟩
          rw [hp3]
          exact hj
    · obtain rfl : q = rs.length := by omega
      have t1 : ((rs.length : Int) < (rs.length : Int)) = False := eq_false (by omega)
      gi_wp2
      go_ret
      exact .inl ⟨rfl, hj, hk⟩
end Go.Proofs.Ytcofibbgdnbejaa.Mw4
namespace Go.Proofs.Ytcofibbgdnbejaa.Mw5
open Go.RowKit Go.Shelf Go.Proofs.YtcofibbgdnbejaaW.PrintWords Go.Proofs.YtcofibbgdnbejaaW.PrintLast Go.Proofs.YtcofibbgdnbejaaW.PrintMore Go.Proofs.Ytcofibbgdnbejaa.Ints Go.Proofs.Ytcofibbgdnbejaa.Mv1 Go.Proofs.Ytcofibbgdnbejaa.Mv2 Go.Proofs.Ytcofibbgdnbejaa.Mv3 Go.Proofs.Ytcofibbgdnbejaa.Mv11 Go.Proofs.Ytcofibbgdnbejaa.Mw1 Go.Proofs.Ytcofibbgdnbejaa.Mw2 Go.Proofs.Ytcofibbgdnbejaa.Mw3 Go.Proofs.Ytcofibbgdnbejaa.Mw4
attribute [local go_sem] Oper.semAt_some
set_option linter.unusedVariables false
set_option linter.unusedSimpArgs false
set_option maxRecDepth 100000 in
set_option maxHeartbeats 8000000 in
theorem each1_in (nn : Nat) (hnn : 2 ≤ nn) (d l Bs : Nat) (w0 : World) (A : Option Addr) (c : Nat) (rs : List Rt) (is : MS → Bool) (hC : Kd.C kdp w0 A rs.length rs) (hst : ∀ j, (st rs j).length ≤ 1000000)
    (hap : ∀ (k a i b j n : Int) W, Below w0.heap.size w0 W → Calls Try.prog 10 #[.slice A rs.length c, .agg #[.int .i64 k, .int .i64 a, .int .i64 i, .int .i64 b, .int .i64 j, .int .i64 n]] W fun e W' => ∃ v0, e = .returned (.tuple #[v0, .bool (is (mo k a i b j n))]) ∧ Below W.heap.size W W')
    (own : World → Nat → Prop) (J Jx : List MS → World → Prop) (hJ : Held w0.heap.size own J) (xs : List MS) (hxs : allM is rs = xs)
    (hY : ∀ pre x W, J pre W → pre.length < xs.length → YieldAt Fence.wide d Try.prog l (encM x) W fun e W' => (e = .returned (.bool true) ∧ J (pre ++ [x]) W' ∧ Kx w0.heap.size own W W') ∨ (e = .returned (.bool false) ∧ Jx (pre ++ [x]) W'))
    (W : World) (hW0 : Below w0.heap.size w0 W) (mB : Mine own W Bs #[.slice A rs.length c] 22) (h0 : J [] W) :
    CallsIn Fence.wide nn Try.prog 37 #[.func (.yield l) #[] #[], .pointer (some ⟨Bs, 0, none⟩)] W fun e W' => (∃ v, e = .returned v) ∧ (J xs W' ∨ ∃ pre, pre <+: xs ∧ Jx pre W') := by
  have h4 := hW0.size
  have hn1 : 1 ≤ nn := by omega
  refine callsIn_of_wp Try.func37 rfl trivial ?_ rfl
  simp only [Try.ntmps37, List.size_toArray, List.length_cons, List.length_nil, Nat.reduceAdd, Nat.reduceSub, Array.replicate_succ, Array.replicate_zero, List.push_toArray, List.append_toArray, List.nil_append, List.cons_append]
  gi_wp2
  gi_loopw [3] (fun v wr => ∃ q : Nat, q ≤ 5 ∧ v = .int .i64 ((q : Int) + 1) ∧ J (ea1 is rs q) wr ∧ Kx w0.heap.size own W wr ∧ Mine own wr Bs #[.slice A rs.length c] 22)
    (fun v _ => 6 - (intOf v).toNat)
  case atStart => exact ⟨0, Nat.zero_le _, rfl, by simpa [ea1] using h0, ⟨Below.refl _ _, fun k _ h => ⟨rfl, h⟩⟩, mB⟩
  case round =>
    clear mB
    obtain ⟨q, hql, rfl, hj, hk, mB⟩ := hrel
    have hcB := (mB.cell 0).trans rfl
    by_cases hlt : q < 5
    · have t1 : ((q : Int) + 1 ≤ 5) = True := eq_true (by omega)
      have t1' : (5 < (q : Int) + 1) = False := eq_false (by omega)
      obtain ⟨k, hk_⟩ : ∃ k : Int, k = (q : Int) + 1 := ⟨_, rfl⟩
      obtain ⟨p1, hp1⟩ : ∃ p, p = ea1 is rs q := ⟨_, rfl⟩
      have hpp : p1 ++ ea2 is rs k rs.length <+: xs := by
        rw [← hxs, hp1, hk_]
        exact fm_step _ hlt
      have hps : ea1 is rs (q + 1) = p1 ++ ea2 is rs k rs.length := by
        rw [hp1, hk_]
        exact fm_succ _ _
      rw [← hp1] at hj
      have hkq : k ≤ 5 := by omega
      rw [← hk_] at t1 t1' ⊢
      have HKQ := Aside0.mk hk_
      clear hk_ hp1
      gi_wp2
      gi_loopw [13] (fun v wr => ∃ a : Nat, a ≤ rs.length ∧ v = .int .i64 (a : Int) ∧ J (p1 ++ ea2 is rs k a) wr ∧ Kx w0.heap.size own W wr ∧ Mine own wr Bs #[.slice A rs.length c] 22)
        (fun v _ => rs.length - (intOf v).toNat)
      case atStart => exact ⟨0, Nat.zero_le _, rfl, by simpa [ea2] using hj, hk, mB⟩
      case round =>
        clear hcB mB hj hk
        obtain ⟨a, hal, rfl, hj, hk, mB⟩ := hrel
        by_cases hat : a < rs.length
        · obtain ⟨ad, A1, c1, hA, q0, q1, hci⟩ := at_R (Kd.C_below hC (hW0.trans hk.1)) (a : Int) (by omega) (by omega)
          obtain ⟨m, hm⟩ : ∃ m, m = (st rs a).length := ⟨_, rfl⟩
          obtain ⟨T, hT⟩ : ∃ T, T = tr rs a := ⟨_, rfl⟩
          replace q0 : wr.cell? (ad.add (a * 2)) = some (.int .i64 T) := by rw [hT]; exact q0
          replace q1 : wr.cell? ⟨(ad.add (a * 2)).block, (ad.add (a * 2)).off + 1, none⟩ = some (.slice A1 m c1) := by rw [hm]; exact q1
          have hmm := hst a
          rw [← hm] at hmm
          have hw : wrap64 ((m : Int) + 1) = ((m + 1 : Nat) : Int) := by unfold wrap64; omega
          have t2 : (a : Int) < (rs.length : Int) := by omega
          have HM := Aside0.mk hm
          clear hci hm hT
          subst hA
          gi_wp2
          obtain ⟨hj2, hk2⟩ := grow hJ hj (Nat.le_trans h4 hk.1.size) ((Below.refl _ wr).alloc (Nat.le_refl _) (.cells #[.int .i64 T, .slice A1 m c1] 35))
          replace mB := mB.kx hk2
          replace hk := hk.trans hk2
          generalize wr.alloc (.cells #[.int .i64 T, .slice A1 m c1] 35) = W2 at mB hj2 hk ⊢
          generalize wr.heap.size = g5
          obtain ⟨p2, hp2⟩ : ∃ p, p = p1 ++ ea2 is rs k a := ⟨_, rfl⟩
          have hpq : p2 ++ ea3 is rs k (a : Int) (m + 1) <+: xs := by
            refine List.IsPrefix.trans ?_ hpp
            rw [hp2, HM.out, List.append_assoc]
            exact pre_app (fm_step _ hat)
          have hp3 : p1 ++ ea2 is rs k (a + 1) = p2 ++ ea3 is rs k (a : Int) (m + 1) := by
            rw [hp2, HM.out, List.append_assoc]
            congr 1
            exact fm_succ _ _
          rw [← hp2] at hj2
          clear q0 q1 hj hk2 hp2
          gi_loopw [22] (fun v wr => ∃ i : Nat, i ≤ m + 1 ∧ v = .int .i64 (i : Int) ∧ J (p2 ++ ea3 is rs k (a : Int) i) wr ∧ Kx w0.heap.size own W wr ∧ Mine own wr Bs #[.slice (some ad) rs.length c] 22)
            (fun v _ => m + 1 - (intOf v).toNat)
          case atStart => exact ⟨0, Nat.zero_le _, rfl, by simpa [ea3] using hj2, hk, mB⟩
          case round =>
            clear mB hj2 hk
            obtain ⟨i, hil, rfl, hj, hk, mB⟩ := hrel
            have hcB := (mB.cell 0).trans rfl
            by_cases hit : i < m + 1
            · have t3 : (i : Int) < (m : Int) + 1 := by omega
              obtain ⟨p3, hp4⟩ : ∃ p, p = p2 ++ ea3 is rs k (a : Int) i := ⟨_, rfl⟩
              have hpr : p3 ++ fr2 is rs k (a : Int) (i : Int) rs.length <+: xs := by
                refine List.IsPrefix.trans ?_ hpq
                rw [hp4, List.append_assoc]
                exact pre_app (fm_step _ hit)
              have hp5 : p2 ++ ea3 is rs k (a : Int) (i + 1) = p3 ++ fr2 is rs k (a : Int) (i : Int) rs.length := by
                rw [hp4, List.append_assoc]
                congr 1
                exact fm_succ _ _
              rw [← hp4] at hj
              have HW3 := Aside0.mk (show wrap64 ((i : Int) + 1) = ((i + 1 : Nat) : Int) by unfold wrap64; omega)
              have HMM := Aside0.mk hmm
              have HIT := Aside0.mk hit
              clear hmm hit hil hp4 t2
              gi_wp2
              refine ⟨trivial, ?_⟩
              gi_at_call 38
              refine (from_in (nn - 1) (by omega) d l w0 (some ad) c rs is k (a : Int) (i : Int) 0 0 0 hC hst (fun b j n W hb => hap k (a : Int) (i : Int) b j n W hb) own J Jx hJ xs p3 hpr hY wr (hW0.trans hk.1) hj).mono ?_
              intro e W5 hfrom
              obtain ⟨bb, hbb, hb1, hb2⟩ : ∃ bb, e = .returned (.bool bb) ∧ (bb = true → J (p3 ++ fr2 is rs k (a : Int) (i : Int) rs.length) W5 ∧ Kx w0.heap.size own wr W5) ∧ (bb = false → ∃ pre, pre <+: xs ∧ Jx pre W5) := (hfrom.elim (fun h => ⟨true, h.1, fun _ => h.2, (fun e => nomatch e)⟩) (fun h => ⟨false, h.1, (fun e => nomatch e), fun _ => h.2⟩))
              subst hbb
              clear hfrom
              cases bb
              · obtain ⟨pre, q1, q2⟩ := hb2 rfl
                clear hb1 hb2
                gi_wp2
                refine bodyPost_ret (results_none rfl _ _ _) rfl ?_
                exact ⟨⟨_, rfl⟩, .inr ⟨pre, q1, q2⟩⟩
              · obtain ⟨hj5, hk5⟩ := hb1 rfl
                clear hb1 hb2
                gi_wp2
                rw [HW3.out]
                have hi2 := HIT.out
                refine ⟨⟨i + 1, hi2, rfl, ?_, hk.trans hk5, mB.kx hk5⟩, by simp only [intOf, Int.toNat_natCast]; omega⟩
                rw [hp5]
                exact hj5
            · obtain rfl : i = m + 1 := by omega
              have t3 : ((((m + 1 : Nat) : Int)) < (m : Int) + 1) = False := eq_false (by omega)
              gi_wp2
              rw [wrap_ok hC.2.1 hat]
              refine ⟨⟨a + 1, hat, rfl, ?_, hk, mB⟩, by simp only [intOf, Int.toNat_natCast]; omega⟩
              rw [hp3]
              exact hj
        · obtain rfl : a = rs.length := by omega
          have t2 : ((rs.length : Int) < (rs.length : Int)) = False := eq_false (by omega)
          gi_wp2
          have hw : wrap64 (k + 1) = ((q + 1 : Nat) : Int) + 1 := by rw [HKQ.out]; unfold wrap64; omega
          rw [hw]
          refine ⟨⟨q + 1, hlt, rfl, ?_, hk, mB⟩, by have := HKQ.out; simp only [intOf]; omega⟩
          rw [hps]
          exact hj
    · obtain rfl : q = 5 := by omega
      have t1 : ((5 : Int) + 1 ≤ 5) = False := eq_false (by omega)
      gi_wp2
      go_end0
      rw [← hxs]
      exact ⟨⟨_, rfl⟩, .inl hj⟩
end Go.Proofs.Ytcofibbgdnbejaa.Mw5
namespace Go.Proofs.Ytcofibbgdnbejaa.Mw6
open Go.RowKit Go.Shelf Go.Proofs.YtcofibbgdnbejaaW.PrintWords Go.Proofs.YtcofibbgdnbejaaW.PrintLast Go.Proofs.YtcofibbgdnbejaaW.PrintMore Go.Proofs.Ytcofibbgdnbejaa.Ints Go.Proofs.Ytcofibbgdnbejaa.Mv1 Go.Proofs.Ytcofibbgdnbejaa.Mv2 Go.Proofs.Ytcofibbgdnbejaa.Mv3 Go.Proofs.Ytcofibbgdnbejaa.Mv11 Go.Proofs.Ytcofibbgdnbejaa.Mw1 Go.Proofs.Ytcofibbgdnbejaa.Mw2 Go.Proofs.Ytcofibbgdnbejaa.Mw3 Go.Proofs.Ytcofibbgdnbejaa.Mw4 Go.Proofs.Ytcofibbgdnbejaa.Mw5
attribute [local go_sem] Oper.semAt_some
set_option linter.unusedVariables false
set_option linter.unusedSimpArgs false
theorem append_in {F : Fence} {n : Nat} {P : Program} (w : World) {ops : Array Oper} {rest : List Oper} {o : Oper} {a : Act} {Q : Exit → Act → World → Prop}
    (hg : o.guard = none) (s x : Operand) (t : TypeId) (hop : o.op = Op.call { callee := Callee.builtin Builtin.append, args := #[s, x], argTypes := #[t, t] })
    (base : Nat) (e : TypeId) (i : TypeInfo) (z : Value) (size bytes : Nat) (h1 : P.underlying t = some (.slice e)) (h2 : P.info? e = some i) (h3 : i.zero = some z) (h4 : i.size = size) (h5 : i.bytes = bytes) (h6 : z.cells.size = size) (h7 : 0 < size)
    (v : Value) (k : Nat) (xs : List Value) (hs : a.eval s = v) (hown : w.ownsRow base e size v k xs) (ad : Addr) (m c : Nat) (news : List Value) (hx : a.eval x = .slice (some ad) m c) (hn : news.length = m * size)
    (hc : ∀ j u, news[j]? = some u → w.cell? (ad.add j) = some u) (h1c : ∀ u ∈ news, u.oneCell' = true) (hm : 0 < m) (b1 : k + m ≤ maxLen) (b2 : (k + m) * bytes ≤ 140737488355328) (b3 : base ≤ w.heap.size)
    (hK : ∀ g cap w', w'.ownsRow base e size (.slice (some ⟨g, 0, none⟩) (k + m) cap) (k + m) (xs ++ news) → w.grownBy w' v.ownBlock → (v.ownBlock = some g ∨ g = w.heap.size) → wpListIn F n P ops Q rest (a.put o.dst (.slice (some ⟨g, 0, none⟩) (k + m) cap)) w') :
    wpListIn F n P ops Q (o :: rest) a w := by
  refine wpListIn_plain hg fun K hK' => ?_
  obtain ⟨g, cap, w', hrun, r1, r2, r3, _⟩ := run_append_lies (P := P) w t o.type base e i z size bytes h1 h2 h3 h4 h5 h6 h7 v k xs hown ad m c news hn hc h1c hm b1 b2 b3 w.heap.size rfl
  unfold Oper.wpIn
  refine ⟨?_, ?_⟩
  · simp [Oper.about, hop, resolve, Target.leads, Sem.run_pure]
  · rw [Oper.semAt_plain F _ _ (by rw [hop]; intro c hc'; cases hc')]
    simp [execOp, hop, resolve, invoke, builtin, hs, hx, hrun, Result.andThen]
    exact hK' _ _ (hK _ _ _ r1 r2 r3)
theorem each_ (A : Option Addr) (n c : Nat) (w : World) : Calls Try.prog 27 #[.slice A n c] w fun e w' => e = .returned (.func (.func 37) #[] #[.pointer (some ⟨w.heap.size, 0, none⟩)]) ∧ w' = w.alloc (.cells #[.slice A n c] 22) := by
  go_enter Try.func27, Try.ntmps27
  go_wp2
  go_ret
  exact ⟨rfl, rfl⟩
def enc6 (x : MS) : List Value := [.int .i64 x.1, .int .i64 x.2.1, .int .i64 x.2.2.1, .int .i64 x.2.2.2.1, .int .i64 x.2.2.2.2.1, .int .i64 x.2.2.2.2.2]
def flat (l : List MS) : List Value := l.flatMap enc6
theorem flat_snoc (l : List MS) (x : MS) : flat (l ++ [x]) = flat l ++ enc6 x := by simp [flat]
/-- The collected moves' box, and the row that it holds. -/
def ob (B : Nat) (W : World) : Option Nat := (W.cell? ⟨B, 0, none⟩).bind Value.ownBlock
def ownC (B : Nat) (W : World) (k : Nat) : Prop := k = B ∨ some k = ob B W
def IC (w0 : World) (B : Nat) (pre : List MS) (W : World) : Prop := ∃ v, W.heap[B]? = some (.cells #[v] 41 (0, 0)) ∧ W.ownsRow w0.heap.size 29 6 v pre.length (flat pre) ∧ Below w0.heap.size w0 W
theorem ob_eq {B : Nat} {W : World} {v : Value} (h : W.heap[B]? = some (.cells #[v] 41 (0, 0))) : ob B W = v.ownBlock := by
  unfold ob
  rw [blk_cell h 0]
  rfl
theorem row_blk {W : World} {base : Nat} {e : TypeId} {size : Nat} {v : Value} {n : Nat} {xs : List Value} (h : W.ownsRow base e size v n xs) {k : Nat} (hk : some k = v.ownBlock) : base ≤ k ∧ ∃ cur, W.heap[k]? = some (.cells cur e (0, 0)) := by
  rcases h.2 with ⟨rfl, _⟩ | ⟨g, cap, cur, rfl, hb, hg, _⟩
  · cases hk
  · injection hk with hk
    subst hk
    exact ⟨hb, cur, hg⟩
theorem ic_cells {w0 : World} {B : Nat} (s : List MS) (W : World) (k : Nat) (h : IC w0 B s W) (ho : ownC B W k) : ∃ o : Obj, W.heap[k]? = some o ∧ o.isCells = true := by
  obtain ⟨v, hv, hr, hb⟩ := h
  rcases ho with rfl | ho
  · exact ⟨_, hv, rfl⟩
  · rw [ob_eq hv] at ho
    obtain ⟨_, cur, hc⟩ := row_blk hr ho
    exact ⟨_, hc, rfl⟩
theorem ic_held (w0 : World) (B : Nat) (hB : w0.heap.size ≤ B) : Held w0.heap.size (ownC B) (IC w0 B) := by
  refine ⟨fun s W k h ho => ?_, fun s W W' row h hg hr => ?_⟩
  · obtain ⟨o, h1, _⟩ := ic_cells s W k h ho
    exact (Array.getElem?_eq_some_iff.1 h1).1
  · obtain ⟨v, hv, hrow, hb⟩ := h
    have hv' : W'.heap[B]? = some (.cells #[v] 41 (0, 0)) := (hg.block B (Array.getElem?_eq_some_iff.1 hv).1 (fun e => (hr B e.symm).2 (.inl rfl))).trans hv
    have hrow' : W'.ownsRow w0.heap.size 29 6 v s.length (flat s) := hrow.kept hg (by
      cases e : v.ownBlock with
      | none =>
        rcases hrow.2 with ⟨rfl, _⟩ | ⟨g, cap, cur, rfl, _⟩
        · exact .inl rfl
        · cases e
      | some k => exact .inr (fun e2 => (hr k e2.symm).2 (.inr (by rw [ob_eq hv, e]))))
    refine ⟨⟨v, hv', hrow', ?_⟩, fun k ho => ?_⟩
    · exact hb.grown hg (below_size hb) (fun q hq => (hr q hq).1)
    · rcases ho with ho | ho
      · exact .inl ho
      · rw [ob_eq hv'] at ho
        exact .inr (by rw [ob_eq hv]; exact ho)
end Go.Proofs.Ytcofibbgdnbejaa.Mw6
namespace Go.Proofs.Ytcofibbgdnbejaa.Mw7
open Go.RowKit Go.Shelf Go.Proofs.YtcofibbgdnbejaaW.PrintWords Go.Proofs.YtcofibbgdnbejaaW.PrintLast Go.Proofs.YtcofibbgdnbejaaW.PrintMore Go.Proofs.Ytcofibbgdnbejaa.Ints Go.Proofs.Ytcofibbgdnbejaa.Mv1 Go.Proofs.Ytcofibbgdnbejaa.Mv2 Go.Proofs.Ytcofibbgdnbejaa.Mv3 Go.Proofs.Ytcofibbgdnbejaa.Mv11 Go.Proofs.Ytcofibbgdnbejaa.Mw1 Go.Proofs.Ytcofibbgdnbejaa.Mw2 Go.Proofs.Ytcofibbgdnbejaa.Mw3 Go.Proofs.Ytcofibbgdnbejaa.Mw4 Go.Proofs.Ytcofibbgdnbejaa.Mw5 Go.Proofs.Ytcofibbgdnbejaa.Mw6
attribute [local go_sem] Oper.semAt_some
set_option linter.unusedVariables false
set_option linter.unusedSimpArgs false
theorem info29 : (Try.prog.info? 29).map (fun i => (i.zero, i.size, i.bytes)) = some (some (.agg #[.int .i64 0, .int .i64 0, .int .i64 0, .int .i64 0, .int .i64 0, .int .i64 0]), 6, 48) := by kernel_rfl
theorem zip1 (t : Array Value) (p : Nat) (v : Value) : ((#[p].zip #[v]).foldl (fun t (p, v) => t.setIfInBounds p v) t) = t.setIfInBounds p v := by simp
theorem cells6 (W : World) (x : MS) (t : TypeId) : ∀ j u, (enc6 x)[j]? = some u → (W.alloc (.cells (enc6 x).toArray t)).cell? ((⟨W.heap.size, 0, none⟩ : Addr).add j) = some u := by
  intro j u hj
  have e := blk_cell (World.alloc_heap_new W (.cells (enc6 x).toArray t)) j
  rw [show (⟨W.heap.size, 0, none⟩ : Addr).add j = ⟨W.heap.size, j, none⟩ by cases j <;> simp [Addr.add]]
  exact e.trans (by simpa using hj)
theorem one6 (x : MS) : ∀ u ∈ enc6 x, u.oneCell' = true := by
  intro u hu
  simp only [enc6, List.mem_cons, List.not_mem_nil, or_false] at hu
  rcases hu with rfl | rfl | rfl | rfl | rfl | rfl <;> rfl
def actM (A : Option Addr) (n c B b : Nat) (x : MS) : Act := { tmps := #[.slice A n c, undef, .slice none 0 0, .pointer (some ⟨B, 0, none⟩), .pointer (some ⟨b, 0, none⟩), .slice A n c, .func (.func 37) #[] #[.pointer (some ⟨B + 1, 0, none⟩)], .agg #[.int .i64 x.1, .int .i64 x.2.1, .int .i64 x.2.2.1, .int .i64 x.2.2.2.1, .int .i64 x.2.2.2.2.1, .int .i64 x.2.2.2.2.2], undef, undef, undef, undef, undef], defers := [] }
set_option maxRecDepth 100000 in
set_option maxHeartbeats 8000000 in
theorem all_ (A : Option Addr) (c : Nat) (rs : List Rt) (is : MS → Bool) (w : World) (hC : Kd.C kdp w A rs.length rs) (hst : ∀ j, (st rs j).length ≤ 1000000)
    (hap : ∀ (k a i b j n : Int) W, Below w.heap.size w W → Calls Try.prog 10 #[.slice A rs.length c, .agg #[.int .i64 k, .int .i64 a, .int .i64 i, .int .i64 b, .int .i64 j, .int .i64 n]] W fun e W' => ∃ v0, e = .returned (.tuple #[v0, .bool (is (mo k a i b j n))]) ∧ Below W.heap.size W W')
    (xs : List MS) (hxs : allM is rs = xs) (hmax : xs.length ≤ 1000000) :
    Calls Try.prog 17 #[.slice A rs.length c] w fun e w' => ∃ v, e = .returned v ∧ w'.ownsRow w.heap.size 29 6 v xs.length (flat xs) ∧ Below w.heap.size w w' := by
  refine (callsIn_wide (n := 6)).1 ?_
  refine callsIn_of_wp_marks Try.func17 rfl trivial ?_ rfl
  simp only [Try.ntmps17, List.size_toArray, List.length_cons, List.length_nil, Nat.reduceAdd, Nat.reduceSub, Array.replicate_succ, Array.replicate_zero, List.push_toArray, List.append_toArray, List.nil_append, List.cons_append]
  gi_wp2_with (refine ⟨trivial, ?_⟩; gi_at_call 27; refine (callsIn_wide.2 (each_ A rs.length c _)).mono ?_; rintro e w5 ⟨rfl, hw5⟩)
  have hb2 : Below w.heap.size w ((w.alloc (Obj.cells #[Value.slice none 0 0] 41)).alloc (Obj.cells #[Value.slice A rs.length c] 22)) := ((Below.refl _ w).alloc (Nat.le_refl _) _).alloc (by simp) _
  have hv0 := (Boxed.new w 41 (.slice none 0 0)).alloc (Obj.cells #[Value.slice A rs.length c] 22)
  have hs0 := Boxed.new (w.alloc (Obj.cells #[Value.slice none 0 0] 41)) 22 (Value.slice A rs.length c)
  rw [World.size_alloc] at hs0
  have hz0 : ((w.alloc (Obj.cells #[Value.slice none 0 0] 41)).alloc (Obj.cells #[Value.slice A rs.length c] 22)).heap.size = w.heap.size + 2 := by simp
  clear hw5 w5
  generalize (w.alloc (Obj.cells #[Value.slice none 0 0] 41)).alloc (Obj.cells #[Value.slice A rs.length c] 22) = W2 at hb2 hv0 hs0 hz0 ⊢
  obtain ⟨B, hB⟩ : ∃ B, B = w.heap.size := ⟨_, rfl⟩
  rw [← hB] at hv0 hs0 hz0 ⊢
  have hBle : w.heap.size ≤ B := by omega
  have HBE := Aside0.mk hB
  clear hB
  have i0 : IC w B [] W2 := ⟨_, hv0, ⟨rfl, .inl ⟨rfl, rfl⟩⟩, hb2⟩
  have hno : ¬ ownC B W2 (B + 1) := by
    rintro (e | e)
    · omega
    · rw [ob_eq hv0] at e
      cases e
  refine range_x (F := Fence.wide) (n := 6) rfl (by omega) (gf := 37) (lb := #[.pointer (some ⟨B + 1, 0, none⟩)]) rfl trivial (enters_of Try.func37 (by kernel_rfl) rfl)
    (encs := encM) (n₀ := w.heap.size) (w0 := w) hb2.size (fun _ => rfl) xs (ownC B) (IC w B) (fun _ _ => False) (ic_held w B hBle) ic_cells (fun _ _ _ _ _ h _ _ _ => h.elim) i0 ?seq
    (fun x a' W => ∃ b, a' = actM A rs.length c B b x ∧ W.heap[b]? = some (.cells (enc6 x).toArray 29 (0, 0))) ?ax ?assign ?body ?done ?stop
  case seq =>
    intro l J Jx W hW hlt hJ hfresh hY h0
    have mB : Mine (ownJ (ownC B) W2.heap.size) W (B + 1) #[.slice A rs.length c] 22 := ⟨(hW.block (B + 1) (by omega)).trans hs0, hfresh (B + 1) (by omega) hno⟩
    exact each1_in 5 (by omega) _ l (B + 1) w A c rs is hC hst hap (ownJ (ownC B) W2.heap.size) J Jx hJ xs hxs hY W (hb2.trans (hW.mono hb2.size)) mB h0
  case ax =>
    rintro x a' W l o o' ⟨b, rfl, hb⟩ hl ho
    exact ⟨b, rfl, (World.putObj_heap_other (fun e => by subst e; rw [hb] at hl; cases hl; cases ho)).trans hb⟩
  case assign =>
    intro l pre x W K hi hK
    obtain ⟨x1, x2, x3, x4, x5, x6⟩ := x
    simp only [encM, zip1, List.setIfInBounds_toArray, List.set_cons_succ, List.set_cons_zero]
    gi_wp2
    obtain ⟨hi2, hk2⟩ := grow (ic_held w B hBle) hi (hi.elim fun v h => h.2.2.size) ((Below.refl _ W).alloc (Nat.le_refl _) (.cells #[.int .i64 x1, .int .i64 x2, .int .i64 x3, .int .i64 x4, .int .i64 x5, .int .i64 x6] 29))
    exact hK _ _ hk2 hi2 ⟨W.heap.size, rfl, World.alloc_heap_new _ _⟩
  case body =>
    rintro l pre x a' W hi ⟨b, rfl, hb⟩ hlen
    obtain ⟨v, hv, hrow, hBW⟩ := hi
    obtain ⟨x1, x2, x3, x4, x5, x6⟩ := x
    have hcB : W.cell? ⟨B, 0, none⟩ = some v := (blk_cell hv 0).trans rfl
    have hc0 : W.cell? ⟨b, 0, none⟩ = some (.int .i64 x1) := (blk_cell hb 0).trans rfl
    have hc1 : W.cell? ⟨b, 1, none⟩ = some (.int .i64 x2) := (blk_cell hb 1).trans rfl
    have hc2 : W.cell? ⟨b, 2, none⟩ = some (.int .i64 x3) := (blk_cell hb 2).trans rfl
    have hc3 : W.cell? ⟨b, 3, none⟩ = some (.int .i64 x4) := (blk_cell hb 3).trans rfl
    have hc4 : W.cell? ⟨b, 4, none⟩ = some (.int .i64 x5) := (blk_cell hb 4).trans rfl
    have hc5 : W.cell? ⟨b, 5, none⟩ = some (.int .i64 x6) := (blk_cell hb 5).trans rfl
    obtain ⟨i0_, hi_, hz0_, hz1_, hz2_⟩ := info_parts info29
    have hlen2 : pre.length < 1000000 := by omega
    unfold actM
    have hn0 := hBW.size
    have hte : (41 : Nat) ≠ 29 := by decide
    gi_wp2_with (gi_at_builtin; refine append_in _ rfl _ _ 41 rfl w.heap.size 29 i0_ (.agg #[.int .i64 0, .int .i64 0, .int .i64 0, .int .i64 0, .int .i64 0, .int .i64 0]) 6 48 Try.underlying41 hi_ hz0_ hz1_ hz2_ rfl (by decide) v pre.length (flat pre) rfl (hrow.alloc _) ⟨W.heap.size, 0, none⟩ 1 1 (enc6 (x1, x2, x3, x4, x5, x6)) rfl rfl ?hcc ?hoc (by decide) ?b1 ?b2 ?b3 ?_; (case hcc => exact cells6 W (x1, x2, x3, x4, x5, x6) 29); (case hoc => exact one6 _); (case b1 => simp only [maxLen]; omega); (case b2 => omega); (case b3 => simp; omega); intro g cap w3 hown' hg3 hat; obtain ⟨hx1, hx2, hx3, hx4, hx5⟩ := Boxed.appended (n₀ := w.heap.size) hv hte hrow hn0 hBle hown' hg3; have hcB3 := hx1.cell; have hfB3 := hx1.frozen)
    have hpre : (pre ++ [(x1, x2, x3, x4, x5, x6)]).length = pre.length + 1 := by simp
    refine ⟨⟨hx5, fun k hk hno => ⟨?_, ?_⟩⟩, ⟨_, hx2, by rw [flat_snoc, hpre]; exact hx3, hBW.trans hx5⟩⟩
    · have n1 : k ≠ B := fun e => hno (.inl e)
      have n2 : some k ≠ v.ownBlock := fun e => hno (.inr (by rw [ob_eq hv]; exact e))
      exact (Below.heap_setCell w3 ⟨B, 0, none⟩ _ k n1).trans ((hg3.block k (by simp; omega) n2).trans (Below.heap_alloc W _ k hk))
    · rintro (e | e)
      · exact hno (.inl e)
      · rw [ob_eq hx2] at e
        have e2 : k = g := by simpa [Value.ownBlock] using e
        rcases hat with h | h
        · exact hno (.inr (by rw [ob_eq hv, h, e2]))
        · rw [World.size_alloc] at h
          omega
  case done =>
    rintro D W hD ⟨v, hv, hrow, hBW⟩ hd
    have hcB : W.cell? ⟨B, 0, none⟩ = some v := (blk_cell hv 0).trans rfl
    have HD := Aside0.mk hd
    clear hd
    gi_wp2
    refine ⟨by simp, .inl ⟨_, _, rfl, run_takeDeferred HD.out, ?_⟩⟩
    exact ⟨v, by simp [results, Try.f17, go_sem], v, rfl, ownsRow_putObj hrow (.deferred none) HD.out rfl, hBW.trans (below_putObj (Nat.le_trans hb2.size hD) _)⟩
  case stop =>
    intro D pre W hD hpre hx
    exact hx.elim
end Go.Proofs.Ytcofibbgdnbejaa.Mw7
namespace Go.Proofs.Ytcofibbgdnbejaa.Mw8
open Go.RowKit Go.Shelf Go.Proofs.YtcofibbgdnbejaaW.PrintWords Go.Proofs.YtcofibbgdnbejaaW.PrintLast Go.Proofs.YtcofibbgdnbejaaW.PrintMore Go.Proofs.Ytcofibbgdnbejaa.Ints Go.Proofs.Ytcofibbgdnbejaa.Mv1 Go.Proofs.Ytcofibbgdnbejaa.Mv2 Go.Proofs.Ytcofibbgdnbejaa.Mv3 Go.Proofs.Ytcofibbgdnbejaa.Mv11 Go.Proofs.Ytcofibbgdnbejaa.Mw1 Go.Proofs.Ytcofibbgdnbejaa.Mw2 Go.Proofs.Ytcofibbgdnbejaa.Mw3 Go.Proofs.Ytcofibbgdnbejaa.Mw4 Go.Proofs.Ytcofibbgdnbejaa.Mw5 Go.Proofs.Ytcofibbgdnbejaa.Mw6 Go.Proofs.Ytcofibbgdnbejaa.Mw7
attribute [local go_sem] Oper.semAt_some
set_option linter.unusedVariables false
set_option linter.unusedSimpArgs false
def z6 : MS := (0, 0, 0, 0, 0, 0)
def nthM (xs : List MS) (n : Int) : MS × Bool := if n < 0 then (z6, false) else match xs[n.toNat]? with | some x => (x, true) | none => (z6, false)
/-- The state: the count box, the two results' boxes. -/
structure IN (w0 : World) (B : Nat) (n : Int) (pre : List MS) (W : World) : Prop where
  c : W.heap[B]? = some (.cells #[.int .i64 (n - (pre.length : Int))] 3 (0, 0))
  m : W.heap[B + 1]? = some (.cells (enc6 z6).toArray 29 (0, 0))
  b : W.heap[B + 2]? = some (.cells #[.bool false] 4 (0, 0))
  bel : Below w0.heap.size w0 W
  le : (pre.length : Int) ≤ n
def ownN (B : Nat) (W : World) (k : Nat) : Prop := k = B ∨ k = B + 1 ∨ k = B + 2
theorem in_cells {w0 : World} {B : Nat} {n : Int} (s : List MS) (W : World) (k : Nat) (h : IN w0 B n s W) (ho : ownN B W k) : ∃ o : Obj, W.heap[k]? = some o ∧ o.isCells = true := by
  rcases ho with rfl | rfl | rfl
  · exact ⟨_, h.c, rfl⟩
  · exact ⟨_, h.m, rfl⟩
  · exact ⟨_, h.b, rfl⟩
theorem in_held (w0 : World) (B : Nat) (n : Int) : Held w0.heap.size (ownN B) (IN w0 B n) := by
  refine ⟨fun s W k h ho => ?_, fun s W W' row h hg hr => ⟨?_, fun k ho => ho⟩⟩
  · obtain ⟨o, h1, _⟩ := in_cells s W k h ho
    exact (Array.getElem?_eq_some_iff.1 h1).1
  · have kp : ∀ k o, ownN B W k → W.heap[k]? = some o → W'.heap[k]? = some o := fun k o ho hk => (hg.block k (Array.getElem?_eq_some_iff.1 hk).1 (fun e => (hr k e.symm).2 ho)).trans hk
    exact ⟨kp _ _ (.inl rfl) h.c, kp _ _ (.inr (.inl rfl)) h.m, kp _ _ (.inr (.inr rfl)) h.b, h.bel.grown hg (below_size h.bel) (fun q hq => (hr q hq).1), h.le⟩
/-- The state behind the round that has found it. -/
def IX (w0 : World) (B : Nat) (n : Int) (pre : List MS) (W : World) : Prop := ∃ ini x, pre = ini ++ [x] ∧ (ini.length : Int) = n ∧ W.heap[B + 1]? = some (.cells (enc6 x).toArray 29 (0, 0)) ∧ W.heap[B + 2]? = some (.cells #[.bool true] 4 (0, 0)) ∧ Below w0.heap.size w0 W
theorem ix_put {w0 : World} {B : Nat} {n : Int} (s : List MS) (W : World) (l : Nat) (o o' : Obj) (h : IX w0 B n s W) (hl : w0.heap.size ≤ l) (ho : W.heap[l]? = some o) (hc : o.isCells = false) : IX w0 B n s (W.putObj l o') := by
  obtain ⟨ini, x, h1, h2, h3, h4, h5⟩ := h
  have ne : ∀ {k : Nat} {cs : Array Value} {t : TypeId}, W.heap[k]? = some (.cells cs t (0, 0)) → k ≠ l := fun hk e => by
    subst e
    rw [hk] at ho
    cases ho
    cases hc
  exact ⟨ini, x, h1, h2, (World.putObj_heap_other (ne h3)).trans h3, (World.putObj_heap_other (ne h4)).trans h4, h5.trans (below_putObj hl _)⟩
theorem set7 {n₀ : Nat} {W : World} {B : Nat} {a0 a1 a2 a3 a4 a5 y0 y1 y2 y3 y4 y5 q q' : Value} {t t' : TypeId} (hn : n₀ ≤ B) (hm : W.heap[B + 1]? = some (.cells #[a0, a1, a2, a3, a4, a5] t (0, 0))) (hb : W.heap[B + 2]? = some (.cells #[q] t' (0, 0))) {V : World}
    (hV : V = ((((((W.setCell ⟨B + 1, 0, none⟩ y0).setCell ⟨B + 1, 1, none⟩ y1).setCell ⟨B + 1, 2, none⟩ y2).setCell ⟨B + 1, 3, none⟩ y3).setCell ⟨B + 1, 4, none⟩ y4).setCell ⟨B + 1, 5, none⟩ y5).setCell ⟨B + 2, 0, none⟩ q') :
    V.heap[B + 1]? = some (.cells #[y0, y1, y2, y3, y4, y5] t (0, 0)) ∧ V.heap[B + 2]? = some (.cells #[q'] t' (0, 0)) ∧ Below n₀ W V ∧ ∀ k, k ≠ B + 1 → k ≠ B + 2 → V.heap[k]? = W.heap[k]? := by
  subst hV
  have e6 := blk_set (blk_set (blk_set (blk_set (blk_set (blk_set hm 0 y0) 1 y1) 2 y2) 3 y3) 4 y4) 5 y5
  have s : ∀ (X : World) (i : Nat) (v : Value) (k : Nat), k ≠ B + 1 → (X.setCell ⟨B + 1, i, none⟩ v).heap[k]? = X.heap[k]? := fun X i v k hk => Below.heap_setCell X ⟨B + 1, i, none⟩ v k hk
  have s6 : ∀ k, k ≠ B + 1 → ((((((W.setCell ⟨B + 1, 0, none⟩ y0).setCell ⟨B + 1, 1, none⟩ y1).setCell ⟨B + 1, 2, none⟩ y2).setCell ⟨B + 1, 3, none⟩ y3).setCell ⟨B + 1, 4, none⟩ y4).setCell ⟨B + 1, 5, none⟩ y5).heap[k]? = W.heap[k]? := fun k hk => by
    rw [s _ _ _ _ hk, s _ _ _ _ hk, s _ _ _ _ hk, s _ _ _ _ hk, s _ _ _ _ hk, s _ _ _ _ hk]
  refine ⟨?_, blk_set ((s6 (B + 2) (by omega)).trans hb) 0 q', ?_, fun k h1 h2 => (Below.heap_setCell _ ⟨B + 2, 0, none⟩ q' k h2).trans (s6 k h1)⟩
  · exact (Below.heap_setCell _ ⟨B + 2, 0, none⟩ q' (B + 1) (by simp)).trans e6
  · have b : ∀ {X : World} (i j : Nat) (v : Value), n₀ ≤ j → Below n₀ W X → Below n₀ W (X.setCell ⟨j, i, none⟩ v) := fun i j v hj h => h.setCell (p := ⟨j, i, none⟩) hj v
    exact b _ _ _ (by omega) (b _ _ _ (by omega) (b _ _ _ (by omega) (b _ _ _ (by omega) (b _ _ _ (by omega) (b _ _ _ (by omega) (b _ _ _ (by omega) (Below.refl _ W)))))))
theorem nth_at {xs : List MS} {n : Int} (h0 : 0 ≤ n) {x : MS} (h : xs[n.toNat]? = some x) : nthM xs n = (x, true) := by
  unfold nthM
  rw [if_neg (by omega), h]
theorem nth_none {xs : List MS} {n : Int} (h0 : 0 ≤ n) (h : (xs.length : Int) ≤ n) : nthM xs n = (z6, false) := by
  unfold nthM
  rw [if_neg (by omega), List.getElem?_eq_none (by omega)]
theorem ne_def {W : World} {D k : Nat} {l : Option (List Deferred)} {cs : Array Value} {t : TypeId} (hd : W.heap[D]? = some (.deferred l)) (hk : W.heap[k]? = some (.cells cs t (0, 0))) : D ≠ k := fun e => by
  subst e
  rw [hd] at hk
  cases hk
def actN (A : Option Addr) (k c : Nat) (n : Int) (B b : Nat) (x : MS) : Act := { tmps := #[.slice A k c, .int .i64 n, undef, .pointer (some ⟨B, 0, none⟩), .pointer (some ⟨B + 1, 0, none⟩), .pointer (some ⟨B + 2, 0, none⟩), .pointer (some ⟨b, 0, none⟩), .int .i64 n, .bool false, undef, .slice A k c, .func (.func 37) #[] #[.pointer (some ⟨B + 3, 0, none⟩)], .agg #[.int .i64 x.1, .int .i64 x.2.1, .int .i64 x.2.2.1, .int .i64 x.2.2.2.1, .int .i64 x.2.2.2.2.1, .int .i64 x.2.2.2.2.2], undef, undef, undef, undef, undef, undef], defers := [] }
section
variable (A : Option Addr) (c : Nat) (rs : List Rt) (is : MS → Bool) (w : World) (hC : Kd.C kdp w A rs.length rs) (hst : ∀ j, (st rs j).length ≤ 1000000)
    (hap : ∀ (k a i b j n : Int) W, Below w.heap.size w W → Calls Try.prog 10 #[.slice A rs.length c, .agg #[.int .i64 k, .int .i64 a, .int .i64 i, .int .i64 b, .int .i64 j, .int .i64 n]] W fun e W' => ∃ v0, e = .returned (.tuple #[v0, .bool (is (mo k a i b j n))]) ∧ Below W.heap.size W W')
    (xs : List MS) (hxs : allM is rs = xs) (n : Int)
set_option maxRecDepth 100000 in
set_option maxHeartbeats 8000000 in
theorem nth_neg (h : n < 0) :
    Calls Try.prog 19 #[.slice A rs.length c, .int .i64 n] w fun e w' => e = .returned (.tuple #[.agg (enc6 (nthM xs n).1).toArray, .bool (nthM xs n).2]) ∧ Below w.heap.size w w' := by
  have e : nthM xs n = (z6, false) := if_pos h
  rw [e]
  have q1 : (n < 0) = True := eq_true h
  have q2 : (0 ≤ n) = False := eq_false (by omega)
  clear e h
  refine (callsIn_wide (n := 6)).1 ?_
  refine callsIn_of_wp_marks Try.func19 rfl trivial ?_ rfl
  simp only [Try.ntmps19, List.size_toArray, List.length_cons, List.length_nil, Nat.reduceAdd, Nat.reduceSub, Array.replicate_succ, Array.replicate_zero, List.push_toArray, List.append_toArray, List.nil_append, List.cons_append]
  gi_wp2
  have hb2 : Below w.heap.size w (((w.alloc (Obj.cells #[Value.int .i64 n] 3)).alloc (Obj.cells #[Value.int .i64 0, Value.int .i64 0, Value.int .i64 0, Value.int .i64 0, Value.int .i64 0, Value.int .i64 0] 29)).alloc (Obj.cells #[Value.bool false] 4)) := (((Below.refl _ w).alloc (Nat.le_refl _) _).alloc (by simp) _).alloc (by simp; omega) _
  have m1 : (((w.alloc (Obj.cells #[Value.int .i64 n] 3)).alloc (Obj.cells #[Value.int .i64 0, Value.int .i64 0, Value.int .i64 0, Value.int .i64 0, Value.int .i64 0, Value.int .i64 0] 29)).alloc (Obj.cells #[Value.bool false] 4)).heap[w.heap.size + 1]? = some (.cells #[Value.int .i64 0, Value.int .i64 0, Value.int .i64 0, Value.int .i64 0, Value.int .i64 0, Value.int .i64 0] 29 (0, 0)) := by
    refine (Below.heap_alloc _ _ _ (by simp)).trans ?_
    have q := World.alloc_heap_new (w.alloc (Obj.cells #[Value.int .i64 n] 3)) (Obj.cells #[Value.int .i64 0, Value.int .i64 0, Value.int .i64 0, Value.int .i64 0, Value.int .i64 0, Value.int .i64 0] 29)
    rwa [World.size_alloc] at q
  have m2 : (((w.alloc (Obj.cells #[Value.int .i64 n] 3)).alloc (Obj.cells #[Value.int .i64 0, Value.int .i64 0, Value.int .i64 0, Value.int .i64 0, Value.int .i64 0, Value.int .i64 0] 29)).alloc (Obj.cells #[Value.bool false] 4)).heap[w.heap.size + 1 + 1]? = some (.cells #[Value.bool false] 4 (0, 0)) := by
    have q := World.alloc_heap_new ((w.alloc (Obj.cells #[Value.int .i64 n] 3)).alloc (Obj.cells #[Value.int .i64 0, Value.int .i64 0, Value.int .i64 0, Value.int .i64 0, Value.int .i64 0, Value.int .i64 0] 29)) (Obj.cells #[Value.bool false] 4)
    rwa [World.size_alloc, World.size_alloc] at q
  generalize ((w.alloc (Obj.cells #[Value.int .i64 n] 3)).alloc (Obj.cells #[Value.int .i64 0, Value.int .i64 0, Value.int .i64 0, Value.int .i64 0, Value.int .i64 0, Value.int .i64 0] 29)).alloc (Obj.cells #[Value.bool false] 4) = W3 at hb2 m1 m2 ⊢
  have c0 := (blk_cell m1 0).trans rfl
  have c1 := (blk_cell m1 1).trans rfl
  have c2 := (blk_cell m1 2).trans rfl
  have c3 := (blk_cell m1 3).trans rfl
  have c4 := (blk_cell m1 4).trans rfl
  have c5 := (blk_cell m1 5).trans rfl
  have d0 := (blk_cell m2 0).trans rfl
  exact ⟨_, by simp [results, Try.f19, go_sem, c0, c1, c2, c3, c4, c5, d0]; rfl, rfl, hb2⟩
include hC hst hap hxs
set_option maxRecDepth 100000 in
set_option maxHeartbeats 8000000 in
theorem nth_nn (h0 : 0 ≤ n) (h1 : n ≤ 9223372036854775807) :
    Calls Try.prog 19 #[.slice A rs.length c, .int .i64 n] w fun e w' => e = .returned (.tuple #[.agg (enc6 (nthM xs n).1).toArray, .bool (nthM xs n).2]) ∧ Below w.heap.size w w' := by
  have q1 : (n < 0) = False := eq_false (by omega)
  have q2 : (0 ≤ n) = True := eq_true h0
  refine (callsIn_wide (n := 6)).1 ?_
  refine callsIn_of_wp_marks Try.func19 rfl trivial ?_ rfl
  simp only [Try.ntmps19, List.size_toArray, List.length_cons, List.length_nil, Nat.reduceAdd, Nat.reduceSub, Array.replicate_succ, Array.replicate_zero, List.push_toArray, List.append_toArray, List.nil_append, List.cons_append]
  gi_wp2_with (refine ⟨trivial, ?_⟩; gi_at_call 27; refine (callsIn_wide.2 (each_ A rs.length c _)).mono ?_; rintro e w5 ⟨rfl, hw5⟩)
  have hb2 : Below w.heap.size w ((((w.alloc (Obj.cells #[Value.int .i64 n] 3)).alloc (Obj.cells #[Value.int .i64 0, Value.int .i64 0, Value.int .i64 0, Value.int .i64 0, Value.int .i64 0, Value.int .i64 0] 29)).alloc (Obj.cells #[Value.bool false] 4)).alloc (Obj.cells #[Value.slice A rs.length c] 22)) := ((((Below.refl _ w).alloc (Nat.le_refl _) _).alloc (by simp) _).alloc (by simp; omega) _).alloc (by simp; omega) _
  have m0 := (((Boxed.new w 3 (.int .i64 n)).alloc (Obj.cells #[Value.int .i64 0, Value.int .i64 0, Value.int .i64 0, Value.int .i64 0, Value.int .i64 0, Value.int .i64 0] 29)).alloc (Obj.cells #[Value.bool false] 4)).alloc (Obj.cells #[Value.slice A rs.length c] 22)
  have m1 : ((((w.alloc (Obj.cells #[Value.int .i64 n] 3)).alloc (Obj.cells #[Value.int .i64 0, Value.int .i64 0, Value.int .i64 0, Value.int .i64 0, Value.int .i64 0, Value.int .i64 0] 29)).alloc (Obj.cells #[Value.bool false] 4)).alloc (Obj.cells #[Value.slice A rs.length c] 22)).heap[w.heap.size + 1]? = some (.cells (enc6 z6).toArray 29 (0, 0)) := by
    refine (Below.heap_alloc _ _ _ (by simp <;> omega)).trans ((Below.heap_alloc _ _ _ (by simp)).trans ?_)
    have q := World.alloc_heap_new (w.alloc (Obj.cells #[Value.int .i64 n] 3)) (Obj.cells #[Value.int .i64 0, Value.int .i64 0, Value.int .i64 0, Value.int .i64 0, Value.int .i64 0, Value.int .i64 0] 29)
    rwa [World.size_alloc] at q
  have m2 := (Boxed.new ((w.alloc (Obj.cells #[Value.int .i64 n] 3)).alloc (Obj.cells #[Value.int .i64 0, Value.int .i64 0, Value.int .i64 0, Value.int .i64 0, Value.int .i64 0, Value.int .i64 0] 29)) 4 (.bool false)).alloc (Obj.cells #[Value.slice A rs.length c] 22)
  have hs0 := Boxed.new (((w.alloc (Obj.cells #[Value.int .i64 n] 3)).alloc (Obj.cells #[Value.int .i64 0, Value.int .i64 0, Value.int .i64 0, Value.int .i64 0, Value.int .i64 0, Value.int .i64 0] 29)).alloc (Obj.cells #[Value.bool false] 4)) 22 (Value.slice A rs.length c)
  rw [World.size_alloc, World.size_alloc] at m2
  rw [World.size_alloc, World.size_alloc, World.size_alloc] at hs0
  have hz0 : ((((w.alloc (Obj.cells #[Value.int .i64 n] 3)).alloc (Obj.cells #[Value.int .i64 0, Value.int .i64 0, Value.int .i64 0, Value.int .i64 0, Value.int .i64 0, Value.int .i64 0] 29)).alloc (Obj.cells #[Value.bool false] 4)).alloc (Obj.cells #[Value.slice A rs.length c] 22)).heap.size = w.heap.size + 4 := by simp
  clear hw5 w5
  generalize (((w.alloc (Obj.cells #[Value.int .i64 n] 3)).alloc (Obj.cells #[Value.int .i64 0, Value.int .i64 0, Value.int .i64 0, Value.int .i64 0, Value.int .i64 0, Value.int .i64 0] 29)).alloc (Obj.cells #[Value.bool false] 4)).alloc (Obj.cells #[Value.slice A rs.length c] 22) = W2 at hb2 m0 m1 m2 hs0 hz0 ⊢
  simp only [Nat.add_assoc, Nat.reduceAdd] at m1 m2 hs0 hz0 ⊢
  obtain ⟨B, hB⟩ : ∃ B, B = w.heap.size := ⟨_, rfl⟩
  rw [← hB] at m0 m1 m2 hs0 hz0 ⊢
  have hBle : w.heap.size ≤ B := by omega
  have HBE := Aside0.mk hB
  clear hB
  have i0 : IN w B n [] W2 := ⟨by rw [List.length_nil]; simpa [Boxed] using m0, m1, m2, hb2, by simpa using h0⟩
  have hno : ¬ ownN B W2 (B + 3) := by
    rintro (e | e | e) <;> omega
  refine range_x (F := Fence.wide) (n := 6) rfl (by omega) (gf := 37) (lb := #[.pointer (some ⟨B + 3, 0, none⟩)]) rfl trivial (enters_of Try.func37 (by kernel_rfl) rfl)
    (encs := encM) (n₀ := w.heap.size) (w0 := w) hb2.size (fun _ => rfl) xs (ownN B) (IN w B n) (IX w B n) (in_held w B n) in_cells (fun s W l o o' h hl ho hc => ix_put s W l o o' h (Nat.le_trans hb2.size hl) ho hc) i0 ?seq
    (fun x a' W => ∃ b, a' = actN A rs.length c n B b x ∧ W.heap[b]? = some (.cells (enc6 x).toArray 29 (0, 0))) ?ax ?assign ?body ?done ?stop
  case seq =>
    intro l J Jx W hW hlt hJ hfresh hY h0
    have mB : Mine (ownJ (ownN B) W2.heap.size) W (B + 3) #[.slice A rs.length c] 22 := ⟨(hW.block (B + 3) (by omega)).trans hs0, hfresh (B + 3) (by omega) hno⟩
    exact each1_in 5 (by omega) _ l (B + 3) w A c rs is hC hst hap (ownJ (ownN B) W2.heap.size) J Jx hJ xs hxs hY W (hb2.trans (hW.mono hb2.size)) mB h0
  case ax =>
    rintro x a' W l o o' ⟨b, rfl, hb⟩ hl ho
    exact ⟨b, rfl, (World.putObj_heap_other (fun e => by subst e; rw [hb] at hl; cases hl; cases ho)).trans hb⟩
  case assign =>
    intro l pre x W K hi hK
    obtain ⟨x1, x2, x3, x4, x5, x6⟩ := x
    simp only [encM, zip1, List.setIfInBounds_toArray, List.set_cons_succ, List.set_cons_zero]
    gi_wp2
    obtain ⟨hi2, hk2⟩ := grow (in_held w B n) hi hi.bel.size ((Below.refl _ W).alloc (Nat.le_refl _) (.cells #[.int .i64 x1, .int .i64 x2, .int .i64 x3, .int .i64 x4, .int .i64 x5, .int .i64 x6] 29))
    exact hK _ _ hk2 hi2 ⟨W.heap.size, rfl, World.alloc_heap_new _ _⟩
  case body =>
    rintro l pre x a' W hi ⟨b, rfl, hb⟩ hlen
    obtain ⟨x1, x2, x3, x4, x5, x6⟩ := x
    obtain ⟨z, hz⟩ : ∃ z, z = n - (pre.length : Int) := ⟨_, rfl⟩
    have hle := hi.le
    have hcC : W.cell? ⟨B, 0, none⟩ = some (.int .i64 z) := (blk_cell hi.c 0).trans (by rw [hz]; rfl)
    have hfC := blk_frozen hi.c 0
    have hc0 : W.cell? ⟨b, 0, none⟩ = some (.int .i64 x1) := (blk_cell hb 0).trans rfl
    have hc1 : W.cell? ⟨b, 1, none⟩ = some (.int .i64 x2) := (blk_cell hb 1).trans rfl
    have hc2 : W.cell? ⟨b, 2, none⟩ = some (.int .i64 x3) := (blk_cell hb 2).trans rfl
    have hc3 : W.cell? ⟨b, 3, none⟩ = some (.int .i64 x4) := (blk_cell hb 3).trans rfl
    have hc4 : W.cell? ⟨b, 4, none⟩ = some (.int .i64 x5) := (blk_cell hb 4).trans rfl
    have hc5 : W.cell? ⟨b, 5, none⟩ = some (.int .i64 x6) := (blk_cell hb 5).trans rfl
    have HI := Aside0.mk hi
    have HZ := Aside0.mk hz
    have HLE := Aside0.mk hle
    by_cases e : z = 0
    · have m0 : W.cell? ⟨B + 1, 0, none⟩ = some (.int .i64 0) := (blk_cell hi.m 0).trans rfl
      have m1 : W.cell? ⟨B + 1, 1, none⟩ = some (.int .i64 0) := (blk_cell hi.m 1).trans rfl
      have m2 : W.cell? ⟨B + 1, 2, none⟩ = some (.int .i64 0) := (blk_cell hi.m 2).trans rfl
      have m3 : W.cell? ⟨B + 1, 3, none⟩ = some (.int .i64 0) := (blk_cell hi.m 3).trans rfl
      have m4 : W.cell? ⟨B + 1, 4, none⟩ = some (.int .i64 0) := (blk_cell hi.m 4).trans rfl
      have m5 : W.cell? ⟨B + 1, 5, none⟩ = some (.int .i64 0) := (blk_cell hi.m 5).trans rfl
      have f0 := blk_frozen hi.m 0
      have f1 := blk_frozen hi.m 1
      have f2 := blk_frozen hi.m 2
      have f3 := blk_frozen hi.m 3
      have f4 := blk_frozen hi.m 4
      have f5 := blk_frozen hi.m 5
      have b0 : W.cell? ⟨B + 2, 0, none⟩ = some (.bool false) := (blk_cell hi.b 0).trans rfl
      have fb := blk_frozen hi.b 0
      have HE := Aside0.mk e
      have e1 : (z == 0) = true := beq_iff_eq.mpr e
      clear hi hz hle e
      unfold actN
      gi_wp2
      obtain ⟨V, hV⟩ : ∃ V, V = ((((((W.setCell ⟨B + 1, 0, none⟩ (Value.int .i64 x1)).setCell ⟨B + 1, 1, none⟩ (Value.int .i64 x2)).setCell ⟨B + 1, 2, none⟩ (Value.int .i64 x3)).setCell ⟨B + 1, 3, none⟩ (Value.int .i64 x4)).setCell ⟨B + 1, 4, none⟩ (Value.int .i64 x5)).setCell ⟨B + 1, 5, none⟩ (Value.int .i64 x6)).setCell ⟨B + 2, 0, none⟩ (Value.bool true) := ⟨_, rfl⟩
      obtain ⟨r1, r2, r3, r4⟩ := set7 hBle HI.out.m HI.out.b hV
      rw [← hV]
      refine ⟨⟨r3, fun k hk hno => ⟨r4 k (fun e => hno (.inr (.inl e))) (fun e => hno (.inr (.inr e))), hno⟩⟩, pre, _, rfl, by have := HZ.out; have := HE.out; omega, r1, r2, HI.out.bel.trans r3⟩
    · have e1 : (z == 0) = false := beq_eq_false_iff_ne.mpr e
      have HW := Aside0.mk (show wrap64 (z - 1) = z - 1 by unfold wrap64; omega)
      have HE := Aside0.mk e
      clear hi hz hle e
      unfold actN
      gi_wp2
      rw [HW.out]
      have ne1 : ∀ k, k ≠ B → (W.setCell ⟨B, 0, none⟩ (Value.int .i64 (z - 1))).heap[k]? = W.heap[k]? := fun k hk => Below.heap_setCell W ⟨B, 0, none⟩ _ k hk
      have hbl : Below w.heap.size W (W.setCell ⟨B, 0, none⟩ (Value.int .i64 (z - 1))) := (Below.refl _ W).setCell (p := ⟨B, 0, none⟩) hBle _
      have hpl : (((pre ++ [(x1, x2, x3, x4, x5, x6)]).length : Nat) : Int) = (pre.length : Int) + 1 := by simp
      have hz1 := HZ.out
      have hz2 := HE.out
      have hz3 := HLE.out
      refine ⟨⟨hbl, fun k hk hno => ⟨ne1 k (fun e => hno (.inl e)), hno⟩⟩, ⟨?_, (ne1 _ (by omega)).trans HI.out.m, (ne1 _ (by omega)).trans HI.out.b, HI.out.bel.trans hbl, by rw [hpl]; omega⟩⟩
      rw [hpl, show n - ((pre.length : Int) + 1) = z - 1 by omega]
      exact blk_set HI.out.c 0 _
  case done =>
    intro D W hD hi hd
    have m0 : W.cell? ⟨B + 1, 0, none⟩ = some (.int .i64 0) := (blk_cell hi.m 0).trans rfl
    have m1 : W.cell? ⟨B + 1, 1, none⟩ = some (.int .i64 0) := (blk_cell hi.m 1).trans rfl
    have m2 : W.cell? ⟨B + 1, 2, none⟩ = some (.int .i64 0) := (blk_cell hi.m 2).trans rfl
    have m3 : W.cell? ⟨B + 1, 3, none⟩ = some (.int .i64 0) := (blk_cell hi.m 3).trans rfl
    have m4 : W.cell? ⟨B + 1, 4, none⟩ = some (.int .i64 0) := (blk_cell hi.m 4).trans rfl
    have m5 : W.cell? ⟨B + 1, 5, none⟩ = some (.int .i64 0) := (blk_cell hi.m 5).trans rfl
    have f0 := blk_frozen hi.m 0
    have f1 := blk_frozen hi.m 1
    have f2 := blk_frozen hi.m 2
    have f3 := blk_frozen hi.m 3
    have f4 := blk_frozen hi.m 4
    have f5 := blk_frozen hi.m 5
    have b0 : W.cell? ⟨B + 2, 0, none⟩ = some (.bool false) := (blk_cell hi.b 0).trans rfl
    have fb := blk_frozen hi.b 0
    have HI := Aside0.mk hi
    have HD := Aside0.mk hd
    clear hi hd
    gi_wp2
    obtain ⟨V, hV⟩ : ∃ V, V = ((((((W.setCell ⟨B + 1, 0, none⟩ (Value.int .i64 0)).setCell ⟨B + 1, 1, none⟩ (Value.int .i64 0)).setCell ⟨B + 1, 2, none⟩ (Value.int .i64 0)).setCell ⟨B + 1, 3, none⟩ (Value.int .i64 0)).setCell ⟨B + 1, 4, none⟩ (Value.int .i64 0)).setCell ⟨B + 1, 5, none⟩ (Value.int .i64 0)).setCell ⟨B + 2, 0, none⟩ (Value.bool false) := ⟨_, rfl⟩
    obtain ⟨r1, r2, r3, r4⟩ := set7 hBle HI.out.m HI.out.b hV
    rw [← hV]
    have hDD : w.heap.size ≤ D := Nat.le_trans hb2.size hD
    have n1 := ne_def HD.out HI.out.m
    have n2 := ne_def HD.out HI.out.b
    have hdv : V.heap[D]? = some (.deferred (some [])) := (r4 D n1 n2).trans HD.out
    refine ⟨by simp, .inl ⟨_, _, rfl, run_takeDeferred hdv, ?_⟩⟩
    have p1 := (World.putObj_heap_other (w := V) (r := D) (o := .deferred none) (Ne.symm n1)).trans r1
    have p2 := (World.putObj_heap_other (w := V) (r := D) (o := .deferred none) (Ne.symm n2)).trans r2
    have c0 := (blk_cell p1 0).trans rfl
    have c1 := (blk_cell p1 1).trans rfl
    have c2 := (blk_cell p1 2).trans rfl
    have c3 := (blk_cell p1 3).trans rfl
    have c4 := (blk_cell p1 4).trans rfl
    have c5 := (blk_cell p1 5).trans rfl
    have d0 := (blk_cell p2 0).trans rfl
    rw [nth_none h0 HI.out.le]
    exact ⟨_, by simp [results, Try.f19, go_sem, c0, c1, c2, c3, c4, c5, d0]; rfl, rfl, (HI.out.bel.trans r3).trans (below_putObj hDD _)⟩
  case stop =>
    rintro D pre W hD hpre hx hd
    obtain ⟨ini, x, rfl, h2, h3, h4, h5⟩ := hx
    have HD := Aside0.mk hd
    clear hd
    gi_wp2
    have hDD : w.heap.size ≤ D := Nat.le_trans hb2.size hD
    have n1 := ne_def HD.out h3
    have n2 := ne_def HD.out h4
    refine ⟨by simp, .inl ⟨_, _, rfl, run_takeDeferred HD.out, ?_⟩⟩
    have p1 := (World.putObj_heap_other (w := W) (r := D) (o := .deferred none) (Ne.symm n1)).trans h3
    have p2 := (World.putObj_heap_other (w := W) (r := D) (o := .deferred none) (Ne.symm n2)).trans h4
    obtain ⟨x1, x2, x3, x4, x5, x6⟩ := x
    have c0 : (W.putObj D (.deferred none)).cell? ⟨B + 1, 0, none⟩ = some (.int .i64 x1) := (blk_cell p1 0).trans rfl
    have c1 : (W.putObj D (.deferred none)).cell? ⟨B + 1, 1, none⟩ = some (.int .i64 x2) := (blk_cell p1 1).trans rfl
    have c2 : (W.putObj D (.deferred none)).cell? ⟨B + 1, 2, none⟩ = some (.int .i64 x3) := (blk_cell p1 2).trans rfl
    have c3 : (W.putObj D (.deferred none)).cell? ⟨B + 1, 3, none⟩ = some (.int .i64 x4) := (blk_cell p1 3).trans rfl
    have c4 : (W.putObj D (.deferred none)).cell? ⟨B + 1, 4, none⟩ = some (.int .i64 x5) := (blk_cell p1 4).trans rfl
    have c5 : (W.putObj D (.deferred none)).cell? ⟨B + 1, 5, none⟩ = some (.int .i64 x6) := (blk_cell p1 5).trans rfl
    have d0 : (W.putObj D (.deferred none)).cell? ⟨B + 2, 0, none⟩ = some (.bool true) := (blk_cell p2 0).trans rfl
    have hat : xs[n.toNat]? = some (x1, x2, x3, x4, x5, x6) := by
      obtain ⟨t, ht⟩ := hpre
      rw [← ht, ← h2]
      simp
    rw [nth_at h0 hat]
    exact ⟨_, by simp [results, Try.f19, go_sem, c0, c1, c2, c3, c4, c5, d0]; rfl, rfl, h5.trans (below_putObj hDD _)⟩
end
end Go.Proofs.Ytcofibbgdnbejaa.Mw8
namespace Go.Proofs.Ytcofibbgdnbejaa.Mw9
open Go.RowKit Go.Shelf Go.Proofs.YtcofibbgdnbejaaW.PrintWords Go.Proofs.YtcofibbgdnbejaaW.PrintLast Go.Proofs.YtcofibbgdnbejaaW.PrintMore Go.Proofs.Ytcofibbgdnbejaa.Ints Go.Proofs.Ytcofibbgdnbejaa.Mv1 Go.Proofs.Ytcofibbgdnbejaa.Mv2 Go.Proofs.Ytcofibbgdnbejaa.Mv3 Go.Proofs.Ytcofibbgdnbejaa.Mv8 Go.Proofs.Ytcofibbgdnbejaa.Mv11 Go.Proofs.Ytcofibbgdnbejaa.Mv13 Go.Proofs.Ytcofibbgdnbejaa.Mw1 Go.Proofs.Ytcofibbgdnbejaa.Mw2 Go.Proofs.Ytcofibbgdnbejaa.Mw3 Go.Proofs.Ytcofibbgdnbejaa.Mw4 Go.Proofs.Ytcofibbgdnbejaa.Mw5 Go.Proofs.Ytcofibbgdnbejaa.Mw6 Go.Proofs.Ytcofibbgdnbejaa.Mw7 Go.Proofs.Ytcofibbgdnbejaa.Mw8
set_option linter.unusedVariables false
set_option linter.unusedSimpArgs false
def isM (rs : List Rt) (x : MS) : Bool := (doS rs x.1 x.2.1 x.2.2.1 x.2.2.2.1 x.2.2.2.2.1 x.2.2.2.2.2).1 && !decide (rs = (doS rs x.1 x.2.1 x.2.2.1 x.2.2.2.1 x.2.2.2.2.1 x.2.2.2.2.2).2)
theorem ap_is {α : Type} (tb : Rt → α) (rs : List Rt) (k a i b j n : Int) : (ap tb rs k a i b j n).2 = isM rs (mo k a i b j n) := by
  unfold ap isM mo
  by_cases h1 : (doS rs k a i b j n).1 = true
  · by_cases h2 : rs = (doS rs k a i b j n).2
    · rw [if_neg (fun h => h.2 h2)]
      simp [← h2]
    · rw [if_pos ⟨h1, h2⟩]
      simp [h1, h2]
  · rw [if_neg (fun h => h1 h.1)]
    simp at h1
    simp [h1]
def movesM (rs : List Rt) : List MS := allM (isM rs) rs
theorem reps_flat {α : Type} {R : α → List Value → Prop} (f : MS → α) (h : ∀ x, R (f x) (enc6 x)) : ∀ xs : List MS, Reps R 6 (xs.map f) (flat xs)
  | [] => Reps.none _ _
  | x :: t => by
    have h1 : Reps R 6 [f x] (enc6 x) := Reps.snoc (Reps.none R 6) (h x) rfl
    exact Kd.reps_append h1 (reps_flat f h t)
theorem flat_R {α : Type} (d : Kd α) (f : MS → α) (hsz : d.sz = 6) (hM : ∀ w base ok x, d.M w base ok (f x) (enc6 x)) {w : World} {base : Nat} {v : Value} {xs : List MS} (h : w.ownsRow base 29 6 v xs.length (flat xs)) : Kd.R d 29 w base (fun _ => True) v (xs.map f) := by
  refine ⟨fun _ _ => trivial, flat xs, ?_, ?_⟩
  · rw [hsz, List.length_map]
    exact h
  · rw [hsz]
    exact reps_flat f (hM _ _ _) xs
section
variable {α : Type} (t : α → Rt) (tb : Rt → α) (h1 : ∀ x, t (tb x) = x) (A0 : Option Addr) (c0 : Nat) (l0 : List α) (w : World) (hr0 : Kd.C (Kd.iso kdp t) w A0 l0.length l0)
  (hown : ∀ w, Kd.C (Kd.iso kdp t) w A0 l0.length l0 → Calls Try.prog 20 #[.slice A0 l0.length c0] w fun e w' => ∃ v0_ : Value, e = .returned v0_ ∧ Kd.S (Kd.iso kdp t) 35 w' w.heap.size (fun _ => True) v0_ l0 ∧ Below w.heap.size w w') (hm : ∀ j, (st (l0.map t) j).length ≤ 1000000)
include h1 hr0 hown hm
theorem hap_ (k a i b j n : Int) (W : World) (hb : Below w.heap.size w W) : Calls Try.prog 10 #[.slice A0 (l0.map t).length c0, .agg #[.int .i64 k, .int .i64 a, .int .i64 i, .int .i64 b, .int .i64 j, .int .i64 n]] W fun e W' => ∃ v0, e = .returned (.tuple #[v0, .bool (isM (l0.map t) (mo k a i b j n))]) ∧ Below W.heap.size W W' := by
  rw [List.length_map]
  refine (ap_ t tb h1 A0 c0 l0 k a i b j n W (Kd.C_below hr0 hb) hown hm).mono ?_
  rintro e w' ⟨v0, rfl, _, hb2⟩
  rw [ap_is]
  exact ⟨v0, rfl, hb2⟩
theorem all_x (hmax : (movesM (l0.map t)).length ≤ 1000000) : Calls Try.prog 17 #[.slice A0 l0.length c0] w fun e w' => ∃ v, e = .returned v ∧ w'.ownsRow w.heap.size 29 6 v (movesM (l0.map t)).length (flat (movesM (l0.map t))) ∧ Below w.heap.size w w' := by
  have hC := C_map hr0
  have e : l0.length = (l0.map t).length := (List.length_map _).symm
  rw [e] at hC ⊢
  exact all_ A0 c0 (l0.map t) (isM (l0.map t)) w hC hm (hap_ t tb h1 A0 c0 l0 w hr0 hown hm) _ rfl hmax
theorem nth_x (n : Int) (hn : n ≤ 9223372036854775807) : Calls Try.prog 19 #[.slice A0 l0.length c0, .int .i64 n] w fun e w' => e = .returned (.tuple #[.agg (enc6 (nthM (movesM (l0.map t)) n).1).toArray, .bool (nthM (movesM (l0.map t)) n).2]) ∧ Below w.heap.size w w' := by
  have hC := C_map hr0
  have e : l0.length = (l0.map t).length := (List.length_map _).symm
  rw [e] at hC ⊢
  by_cases h : n < 0
  · exact nth_neg A0 c0 (l0.map t) w (movesM (l0.map t)) n h
  · exact nth_nn A0 c0 (l0.map t) (isM (l0.map t)) w hC hm (hap_ t tb h1 A0 c0 l0 w hr0 hown hm) (movesM (l0.map t)) rfl n (by omega) hn
end
end Go.Proofs.Ytcofibbgdnbejaa.Mw9
