/- No stop is lost by a move, none is new, and no truck changes: lemmas on routes and moves, and the pure statement of MoveKeeps. -/
import Derived.Test.YtcofibbgdnbejaaMMoveKeepsx3
import Derived.Test.YtcofibbgdnbejaaMv14
set_option linter.unusedVariables false
set_option linter.unusedSimpArgs false
namespace Go.Proofs.Ytcofibbgdnbejaa.Pure
open Go.RowKit Go.Proofs.Ytcofibbgdnbejaa.MMoveKeeps Go.Proofs.YtcofibbgdnbejaaW.PrintWords Go.Proofs.YtcofibbgdnbejaaW.PrintLast

theorem w64 {x : Int} (h0 : -9223372036854775808 ≤ x) (h1 : x ≤ 9223372036854775807) : wrap64 x = x := by
  unfold wrap64
  omega
theorem tmod_nn {a : Int} (h : 0 ≤ a) (b : Int) : Int.tmod a b = a % b := by
  rw [Int.tmod_eq_emod_of_nonneg h]
theorem tdiv_nn {a : Int} (h : 0 ≤ a) (b : Int) : Int.tdiv a b = a / b := by
  rw [Int.tdiv_eq_ediv_of_nonneg h]
theorem ev_succ {α : Type} {g : Nat → Option α} {r : α} (h : Ev (fun k => g (k + 1)) r) : Ev g r := by
  obtain ⟨K, h⟩ := h
  refine ⟨K + 1, fun n hn => ?_⟩
  obtain ⟨m, rfl⟩ : ∃ m, n = m + 1 := ⟨n - 1, by omega⟩
  exact h m (by omega)

def IR (x : Int) : Prop := -9223372036854775808 ≤ x ∧ x ≤ 9223372036854775807
theorem ir_of {x : Int} (h : (Lit.int .i64 x).wf = true) : IR x := by simpa [IR, Lit.wf, IntKind.min, IntKind.max, IntKind.signed, IntKind.bits] using h
theorem rd_drop (xs : List Int) (i : Nat) (h : i < xs.length) : xs.drop i = rd xs (i : Int) :: xs.drop (i + 1) := by
  rw [List.drop_eq_getElem_cons h]
  simp [rd, h]
theorem rd_mem (xs : List Int) (i : Nat) (h : i < xs.length) : rd xs (i : Int) ∈ xs := by
  simp [rd, h]

/-! routes: Light, the same routes, move.own, move.Apply, alive -/
open Go.Proofs.Ytcofibbgdnbejaa.Mv2 Go.Proofs.Ytcofibbgdnbejaa.Mv8 Go.Proofs.Ytcofibbgdnbejaa.Mv13 Go.Proofs.Ytcofibbgdnbejaa.Mv14
theorem rd35_drop (xs : List S35) (i : Nat) (h : i < xs.length) : xs.drop i = rd_T35 xs (i : Int) :: xs.drop (i + 1) := by
  rw [List.drop_eq_getElem_cons h]
  simp [rd_T35, h]
theorem rd35_mem (xs : List S35) (i : Nat) (h : i < xs.length) : rd_T35 xs (i : Int) ∈ xs := by
  simp [rd_T35, h]
theorem light_l0 (s : Int) (l : List S35) (hl : l.length ≤ 1000000) (d : Nat) : ∀ i : Nat, i + d = l.length → Ev (fun k => haulierlaw36_Light.l0 k s l (l.length : Int) (i : Int)) ((l.drop i).all fun x => decide ((x.f1.length : Int) ≤ s)) := by
  induction d with
  | zero =>
    intro i hi
    refine ev_succ ?_
    simp only [haulierlaw36_Light.l0, if_neg (show ¬ (i : Int) < (l.length : Int) by omega)]
    rw [List.drop_of_length_le (by omega)]
    exact Ev.now _
  | succ d ih =>
    intro i hi
    have h := ih (i + 1) (by omega)
    rw [show (((i + 1 : Nat) : Int)) = (i : Int) + 1 by omega] at h
    refine ev_succ ?_
    simp only [haulierlaw36_Light.l0, if_pos (show (i : Int) < (l.length : Int) by omega), if_pos (show (0 : Int) ≤ (i : Int) by omega), w64 (x := (i : Int) + 1) (by omega) (by omega)]
    rw [rd35_drop l i (by omega), List.all_cons]
    by_cases c : ((rd_T35 l (i : Int)).f1.length : Int) > s
    · simp only [if_pos c]
      rw [decide_eq_false (by omega : ¬ ((rd_T35 l (i : Int)).f1.length : Int) ≤ s)]
      exact Ev.now _
    · simp only [if_neg c]
      rw [decide_eq_true (by omega : ((rd_T35 l (i : Int)).f1.length : Int) ≤ s), Bool.true_and]
      exact h
def lightS (l : List S35) (a s : Int) : Bool := decide ((l.length : Int) ≤ a) && l.all fun x => decide ((x.f1.length : Int) ≤ s)
theorem light_f (l : List S35) (a s : Int) (ha : a ≤ 1000000) : Ev (fun k => haulierlaw36_Light.f k l a s) (lightS l a s) := by
  unfold haulierlaw36_Light.f lightS
  by_cases c : (l.length : Int) > a
  · simp only [if_pos c]
    rw [decide_eq_false (by omega : ¬ (l.length : Int) ≤ a)]
    exact Ev.now _
  · simp only [if_neg c]
    rw [decide_eq_true (by omega : (l.length : Int) ≤ a), Bool.true_and]
    exact light_l0 s l (by omega) l.length 0 (by omega)
theorem light_yes {l : List S35} {a s : Int} (h : lightS l a s = true) : (l.length : Int) ≤ a ∧ ∀ x ∈ l, (x.f1.length : Int) ≤ s := by
  unfold lightS at h
  rw [Bool.and_eq_true, List.all_eq_true] at h
  exact ⟨of_decide_eq_true h.1, fun x hx => of_decide_eq_true (h.2 x hx)⟩
theorem own_l0 (l : List S35) (hl : l.length ≤ 1000000) (hs : ∀ x ∈ l, x.f1.length ≤ 1000000) (d : Nat) : ∀ (i : Nat) (acc : List S35), i + d = l.length → acc.length = i → Ev (fun k => move_own.l0 k acc l (l.length : Int) (i : Int)) (acc ++ l.drop i) := by
  induction d with
  | zero =>
    intro i acc hi ha
    refine ev_succ ?_
    simp only [move_own.l0, if_neg (show ¬ (i : Int) < (l.length : Int) by omega)]
    rw [List.drop_of_length_le (by omega), List.append_nil]
    exact Ev.now _
  | succ d ih =>
    intro i acc hi ha
    have h := ih (i + 1) (acc ++ [rd_T35 l (i : Int)]) (by omega) (by simp; omega)
    rw [show (((i + 1 : Nat) : Int)) = (i : Int) + 1 by omega] at h
    rw [rd35_drop l i (by omega)]
    rw [List.append_assoc, List.singleton_append] at h
    refine ev_succ ?_
    have hx := hs _ (rd35_mem l i (by omega))
    simp only [move_own.l0, if_pos (show (i : Int) < (l.length : Int) by omega), if_pos (show (0 : Int) ≤ (i : Int) by omega), w64 (x := (i : Int) + 1) (by omega) (by omega), slices_Clone_int_int.f, if_pos (show (rd_T35 l (i : Int)).f1.length < 1099511627776 by omega), Option.bind_some, if_pos (show acc.length < 4398046511104 by omega)]
    exact h
theorem own_f (l : List S35) (hl : l.length ≤ 1000000) (hs : ∀ x ∈ l, x.f1.length ≤ 1000000) : Ev (fun k => move_own.f k l) l := by
  unfold move_own.f
  exact own_l0 l hl hs l.length 0 [] (by omega) rfl
abbrev tS := move_Apply.tS
abbrev tB := move_Apply.tB
theorem apply_f (l : List S35) (hl : l.length ≤ 1000000) (hs : ∀ x ∈ l, x.f1.length ≤ 1000000) (k a i b j n : Int) : Ev (fun q => move_Apply.f q l k a i b j n) (ap tB (l.map tS) k a i b j n) := by
  unfold move_Apply.f
  refine Ev.bind (own_f l hl hs) ?_
  rw [if_pos ⟨rfl, by rw [List.all_eq_true]; exact fun x hx => decide_eq_true (hs x hx)⟩]
  exact Ev.now _
theorem map_BS (l : List S35) : (l.map tS).map tB = l := by
  rw [List.map_map, show (tB ∘ tS) = id from rfl, List.map_id]
theorem map_SB (rs : List Rt) : (rs.map tB).map tS = rs := by
  rw [List.map_map, show (tS ∘ tB) = id from rfl, List.map_id]
theorem ap_cases (rs : List Rt) (k a i b j n : Int) : (ap tB rs k a i b j n = ([], false)) ∨ ((doS rs k a i b j n).1 = true ∧ ¬ rs = (doS rs k a i b j n).2 ∧ ap tB rs k a i b j n = ((doS rs k a i b j n).2.map tB, true)) := by
  unfold ap
  split
  · rename_i c
    exact .inr ⟨c.1, c.2, rfl⟩
  · exact .inl rfl
theorem same_l0 (a b : List Int) (hl : a.length = b.length) (ha : a.length ≤ 1000000) (d : Nat) : ∀ i : Nat, i + d = a.length → Ev (fun k => haulierref35_same.l0 k a b (i : Int)) (decide (a.drop i = b.drop i)) := by
  induction d with
  | zero =>
    intro i hi
    refine ev_succ ?_
    simp only [haulierref35_same.l0, if_neg (show ¬ (i : Int) < (a.length : Int) by omega)]
    rw [List.drop_of_length_le (by omega), List.drop_of_length_le (by omega)]
    exact Ev.now _
  | succ d ih =>
    intro i hi
    have h := ih (i + 1) (by omega)
    rw [show (((i + 1 : Nat) : Int)) = (i : Int) + 1 by omega] at h
    refine ev_succ ?_
    simp only [haulierref35_same.l0, if_pos (show (i : Int) < (a.length : Int) by omega), if_pos (show (i : Int) < (b.length : Int) by omega), if_pos (show (0 : Int) ≤ (i : Int) by omega), w64 (x := (i : Int) + 1) (by omega) (by omega)]
    rw [rd_drop a i (by omega), rd_drop b i (by omega)]
    by_cases c : rd a (i : Int) = rd b (i : Int)
    · simp only [if_pos c]
      rw [show decide (rd a (i : Int) :: a.drop (i + 1) = rd b (i : Int) :: b.drop (i + 1)) = decide (a.drop (i + 1) = b.drop (i + 1)) by simp [c]]
      exact h
    · simp only [if_neg c]
      rw [decide_eq_false (by simp [c])]
      exact Ev.now _
theorem same_f (a b : List Int) (ha : a.length ≤ 1000000) : Ev (fun k => haulierref35_same.f k a b) (decide (a = b)) := by
  unfold haulierref35_same.f
  by_cases c : (a.length : Int) = (b.length : Int)
  · simp only [if_pos c]
    exact same_l0 a b (by omega) ha a.length 0 (by omega)
  · simp only [if_neg c]
    rw [decide_eq_false (fun e => c (by rw [e]))]
    exact Ev.now _
theorem s35_ext (x y : S35) : x = y ↔ x.f0 = y.f0 ∧ x.f1 = y.f1 := by
  cases x
  cases y
  simp
theorem alike_l0 (a b : List S35) (hl : a.length = b.length) (ha : a.length ≤ 1000000) (hs : ∀ x ∈ a, x.f1.length ≤ 1000000) (d : Nat) : ∀ i : Nat, i + d = a.length → ∃ r, Ev (fun k => haulierref35_Alike.l0 k a b (i : Int)) r ∧ (r = true ↔ a.drop i = b.drop i) := by
  induction d with
  | zero =>
    intro i hi
    refine ⟨true, ev_succ ?_, ?_⟩
    · simp only [haulierref35_Alike.l0, if_neg (show ¬ (i : Int) < (a.length : Int) by omega)]
      exact Ev.now _
    · rw [List.drop_of_length_le (by omega), List.drop_of_length_le (by omega)]
      simp
  | succ d ih =>
    intro i hi
    obtain ⟨r, h, hr⟩ := ih (i + 1) (by omega)
    rw [show (((i + 1 : Nat) : Int)) = (i : Int) + 1 by omega] at h
    rw [rd35_drop a i (by omega), rd35_drop b i (by omega)]
    by_cases c : (rd_T35 a (i : Int)).f0 = (rd_T35 b (i : Int)).f0
    · by_cases c2 : (rd_T35 a (i : Int)).f1 = (rd_T35 b (i : Int)).f1
      · refine ⟨r, ev_succ ?_, ?_⟩
        · simp only [haulierref35_Alike.l0, if_pos (show (i : Int) < (a.length : Int) by omega), if_pos (show (i : Int) < (b.length : Int) by omega), if_pos (show (0 : Int) ≤ (i : Int) by omega), w64 (x := (i : Int) + 1) (by omega) (by omega), if_pos c]
          refine Ev.bind (same_f _ _ (hs _ (rd35_mem a i (by omega)))) ?_
          simp only [decide_eq_true c2, if_true]
          exact h
        · rw [hr, List.cons.injEq, s35_ext]
          simp [c, c2]
      · refine ⟨false, ev_succ ?_, ?_⟩
        · simp only [haulierref35_Alike.l0, if_pos (show (i : Int) < (a.length : Int) by omega), if_pos (show (i : Int) < (b.length : Int) by omega), if_pos (show (0 : Int) ≤ (i : Int) by omega), w64 (x := (i : Int) + 1) (by omega) (by omega), if_pos c]
          refine Ev.bind (same_f _ _ (hs _ (rd35_mem a i (by omega)))) ?_
          simp only [decide_eq_false c2, Bool.false_eq_true, if_false]
          exact Ev.now _
        · rw [List.cons.injEq, s35_ext]
          simp [c2]
    · refine ⟨false, ev_succ ?_, ?_⟩
      · simp only [haulierref35_Alike.l0, if_pos (show (i : Int) < (a.length : Int) by omega), if_pos (show (i : Int) < (b.length : Int) by omega), if_pos (show (0 : Int) ≤ (i : Int) by omega), if_neg c]
        exact Ev.now _
      · rw [List.cons.injEq, s35_ext]
        simp [c]
theorem alike_f (a b : List S35) (ha : a.length ≤ 1000000) (hs : ∀ x ∈ a, x.f1.length ≤ 1000000) : ∃ r, Ev (fun k => haulierref35_Alike.f k a b) r ∧ (r = true ↔ a = b) := by
  unfold haulierref35_Alike.f
  by_cases c : (a.length : Int) = (b.length : Int)
  · simp only [if_pos c]
    exact alike_l0 a b (by omega) ha hs a.length 0 (by omega)
  · simp only [if_neg c]
    exact ⟨false, Ev.now _, by simp; exact fun e => c (by rw [e])⟩
theorem alike_yes (a : List S35) (ha : a.length ≤ 1000000) (hs : ∀ x ∈ a, x.f1.length ≤ 1000000) : Ev (fun k => haulierref35_Alike.f k a a) true := by
  obtain ⟨r, h, hr⟩ := alike_f a a ha hs
  rw [hr.2 rfl] at h
  exact h
theorem alive_f : Ev (fun k => haulierlaw36_alive.f k) true := by
  unfold haulierlaw36_alive.f
  refine Ev.bind (apply_f _ (by simp) (by simp) 4 0 1 1 2 0) ?_
  rw [show ap tB ([(⟨1, [1, 2, 3]⟩ : S35), (⟨2, [4, 5]⟩ : S35)].map tS) 4 0 1 1 2 0 = ([(⟨1, [1]⟩ : S35), (⟨2, [4, 5, 2, 3]⟩ : S35)], true) from rfl]
  simp only [if_true]
  refine Ev.bind (alike_yes _ (by simp) (by simp)) ?_
  simp only [if_true]
  exact Ev.now _

/-! how long routes behind a move are -/
theorem ap_bounds {l : List S35} (hl : l.length ≤ 20) (hs : ∀ x ∈ l, x.f1.length ≤ 60) {k a i b j n : Int} (h : (doS (l.map tS) k a i b j n).1 = true) : ((doS (l.map tS) k a i b j n).2.map tB).length = l.length ∧ ∀ x ∈ (doS (l.map tS) k a i b j n).2.map tB, x.f1.length ≤ 1200 := by
  have e := doS_len (l.map tS) k a i b j n
  rw [List.length_map] at e
  refine ⟨by rw [List.length_map, e], fun x hx => ?_⟩
  have hsum := do_sum adds_length (l.map tS) k a i b j n h
  have hb : ∀ m : List S35, m.length ≤ 20 → (∀ x ∈ m, x.f1.length ≤ 60) → Sm (fun l => l.length) (m.map tS) ≤ 60 * m.length := by
    intro m
    induction m with
    | nil => intro _ _; simp [Sm]
    | cons y t ih =>
      intro h1 h2
      have := ih (by simp at h1; omega) (fun x hx => h2 x (List.mem_cons_of_mem _ hx))
      have h3 := h2 y List.mem_cons_self
      simp only [Sm, List.map_cons, List.sum_cons, List.length_cons] at this ⊢
      change y.f1.length + _ ≤ _
      omega
  have hb1 := hb l hl hs
  obtain ⟨p, hp, rfl⟩ := List.mem_map.1 hx
  obtain ⟨q, hq, e2⟩ := List.getElem_of_mem hp
  have := Sm_le (fun l => l.length) (doS (l.map tS) k a i b j n).2 q hq
  have e3 : st (doS (l.map tS) k a i b j n).2 q = p.2 := by
    unfold st
    simp [hq, e2]
  rw [e3, hsum] at this
  change p.2.length ≤ 1200
  omega

/-! how often a stop stands on routes -/
def cnt (l : List S35) (id : Int) : Nat := Sm (fun x => x.count id) (l.map tS)
theorem times_l1 (id : Int) (l : List S35) (L r : Int) (xs : List Int) (hx : xs.length ≤ 1000000) (R : Int) (d : Nat) : ∀ (p : Nat) (acc : Int), p + d = xs.length → 0 ≤ acc → acc ≤ 1000000000000 + p →
    Ev (fun k => haulierlaw36_times.l0 k id (acc + (((xs.drop p).count id : Nat) : Int)) l L (wrap64 (r + 1))) R → Ev (fun k => haulierlaw36_times.l1 k id acc l L r xs (xs.length : Int) (p : Int)) R := by
  induction d with
  | zero =>
    intro p acc hp h0 h1 h
    refine ev_succ ?_
    simp only [haulierlaw36_times.l1, if_neg (show ¬ (p : Int) < (xs.length : Int) by omega)]
    rw [List.drop_of_length_le (by omega)] at h
    simpa using h
  | succ d ih =>
    intro p acc hp h0 h1 h
    rw [rd_drop xs p (by omega)] at h
    refine ev_succ ?_
    simp only [haulierlaw36_times.l1, if_pos (show (p : Int) < (xs.length : Int) by omega), if_pos (show (0 : Int) ≤ (p : Int) by omega), w64 (x := (p : Int) + 1) (by omega) (by omega), w64 (x := acc + 1) (by omega) (by omega)]
    by_cases c : rd xs (p : Int) = id
    · simp only [if_pos c]
      have h2 := ih (p + 1) (acc + 1) (by omega) (by omega) (by omega) (by
        rw [c, List.count_cons_self] at h
        rw [show acc + 1 + (((xs.drop (p + 1)).count id : Nat) : Int) = acc + (((xs.drop (p + 1)).count id + 1 : Nat) : Int) by omega]
        exact h)
      rw [show (((p + 1 : Nat) : Int)) = (p : Int) + 1 by omega] at h2
      exact h2
    · simp only [if_neg c]
      have h2 := ih (p + 1) acc (by omega) (by omega) (by omega) (by
        rw [List.count_cons_of_ne c] at h
        exact h)
      rw [show (((p + 1 : Nat) : Int)) = (p : Int) + 1 by omega] at h2
      exact h2
theorem times_l0 (id : Int) (l : List S35) (hl : l.length ≤ 1000) (hs : ∀ x ∈ l, x.f1.length ≤ 1000000) (d : Nat) : ∀ (r : Nat) (acc : Nat), r + d = l.length → acc ≤ 1000000 * r → Ev (fun k => haulierlaw36_times.l0 k id (acc : Int) l (l.length : Int) (r : Int)) ((acc + cnt (l.drop r) id : Nat) : Int) := by
  induction d with
  | zero =>
    intro r acc hr ha
    refine ev_succ ?_
    simp only [haulierlaw36_times.l0, if_neg (show ¬ (r : Int) < (l.length : Int) by omega)]
    rw [List.drop_of_length_le (by omega)]
    exact Ev.now _
  | succ d ih =>
    intro r acc hr ha
    have hx := hs _ (rd35_mem l r (by omega))
    have hc := List.count_le_length (a := id) (l := (rd_T35 l (r : Int)).f1)
    have h := ih (r + 1) (acc + ((rd_T35 l (r : Int)).f1).count id) (by omega) (by omega)
    rw [rd35_drop l r (by omega)]
    rw [show acc + cnt (rd_T35 l (r : Int) :: l.drop (r + 1)) id = acc + ((rd_T35 l (r : Int)).f1).count id + cnt (l.drop (r + 1)) id from by
      unfold cnt Sm
      simp only [List.map_cons, List.sum_cons]
      change acc + (((rd_T35 l (r : Int)).f1).count id + _) = _
      omega]
    refine ev_succ ?_
    simp only [haulierlaw36_times.l0, if_pos (show (r : Int) < (l.length : Int) by omega), if_pos (show (0 : Int) ≤ (r : Int) by omega)]
    have h2 := times_l1 id l (l.length : Int) (r : Int) (rd_T35 l (r : Int)).f1 hx _ _ 0 (acc : Int) (Nat.zero_add _) (by omega) (by omega) (by
      rw [w64 (x := (r : Int) + 1) (by omega) (by omega), List.drop_zero]
      rw [show (((r + 1 : Nat) : Int)) = (r : Int) + 1 by omega] at h
      simp only [Int.natCast_add] at h ⊢
      exact h)
    exact h2
theorem times_f (l : List S35) (id : Int) (hl : l.length ≤ 1000) (hs : ∀ x ∈ l, x.f1.length ≤ 1000000) : Ev (fun k => haulierlaw36_times.f k l id) (cnt l id : Int) := by
  unfold haulierlaw36_times.f
  have h := times_l0 id l hl hs l.length 0 0 (by omega) (by omega)
  simpa using h

theorem keeps_l2 (x0 x5 : List S35) (L r : Int) (xs : List Int) (hx : xs.length ≤ 1000000) (h0 : x0.length ≤ 1000) (h5 : x5.length ≤ 1000) (s0 : ∀ x ∈ x0, x.f1.length ≤ 1000000) (s5 : ∀ x ∈ x5, x.f1.length ≤ 1000000) (he : ∀ id, cnt x5 id = cnt x0 id) (R : Bool) (hn : Ev (fun k => haulierlaw36_MoveKeeps.l0 k x0 x5 L (wrap64 (r + 1))) R) (d : Nat) : ∀ p : Nat, p + d = xs.length → Ev (fun k => haulierlaw36_MoveKeeps.l2 k x0 x5 L r xs (xs.length : Int) (p : Int)) R := by
  induction d with
  | zero =>
    intro p hp
    refine ev_succ ?_
    simp only [haulierlaw36_MoveKeeps.l2, if_neg (show ¬ (p : Int) < (xs.length : Int) by omega)]
    exact hn
  | succ d ih =>
    intro p hp
    have h := ih (p + 1) (by omega)
    rw [show (((p + 1 : Nat) : Int)) = (p : Int) + 1 by omega] at h
    refine ev_succ ?_
    simp only [haulierlaw36_MoveKeeps.l2, if_pos (show (p : Int) < (xs.length : Int) by omega), if_pos (show (0 : Int) ≤ (p : Int) by omega), w64 (x := (p : Int) + 1) (by omega) (by omega)]
    refine Ev.bind (times_f x5 _ h5 s5) ?_
    refine Ev.bind (times_f x0 _ h0 s0) ?_
    simp only [he, if_true]
    exact h
theorem keeps_l1 (x0 x5 : List S35) (L r : Int) (r0 : 0 ≤ r) (r1 : r < (x5.length : Int)) (xs : List Int) (hx : xs.length ≤ 1000000) (h0 : x0.length ≤ 1000) (h5 : x5.length ≤ 1000) (s0 : ∀ x ∈ x0, x.f1.length ≤ 1000000) (s5 : ∀ x ∈ x5, x.f1.length ≤ 1000000) (he : ∀ id, cnt x5 id = cnt x0 id) (R : Bool) (hn : Ev (fun k => haulierlaw36_MoveKeeps.l2 k x0 x5 L r ((rd_T35 x5 r).f1) (((rd_T35 x5 r).f1).length : Int) 0) R) (d : Nat) : ∀ p : Nat, p + d = xs.length → Ev (fun k => haulierlaw36_MoveKeeps.l1 k x0 x5 r L r xs (xs.length : Int) (p : Int)) R := by
  induction d with
  | zero =>
    intro p hp
    refine ev_succ ?_
    simp only [haulierlaw36_MoveKeeps.l1, if_neg (show ¬ (p : Int) < (xs.length : Int) by omega), if_pos r0, if_pos r1]
    exact hn
  | succ d ih =>
    intro p hp
    have h := ih (p + 1) (by omega)
    rw [show (((p + 1 : Nat) : Int)) = (p : Int) + 1 by omega] at h
    refine ev_succ ?_
    simp only [haulierlaw36_MoveKeeps.l1, if_pos (show (p : Int) < (xs.length : Int) by omega), if_pos (show (0 : Int) ≤ (p : Int) by omega), w64 (x := (p : Int) + 1) (by omega) (by omega)]
    refine Ev.bind (times_f x5 _ h5 s5) ?_
    refine Ev.bind (times_f x0 _ h0 s0) ?_
    simp only [he, if_true]
    exact h
theorem keeps_l0 (x0 x5 : List S35) (h0 : x0.length ≤ 1000) (h5 : x5.length = x0.length) (s0 : ∀ x ∈ x0, x.f1.length ≤ 1000000) (s5 : ∀ x ∈ x5, x.f1.length ≤ 1000000) (he : ∀ id, cnt x5 id = cnt x0 id) (ht : ∀ i : Nat, i < x0.length → (rd_T35 x5 (i : Int)).f0 = (rd_T35 x0 (i : Int)).f0) (d : Nat) : ∀ r : Nat, r + d = x0.length → Ev (fun k => haulierlaw36_MoveKeeps.l0 k x0 x5 (x0.length : Int) (r : Int)) true := by
  induction d with
  | zero =>
    intro r hr
    refine ev_succ ?_
    simp only [haulierlaw36_MoveKeeps.l0, if_neg (show ¬ (r : Int) < (x0.length : Int) by omega)]
    exact Ev.bind alive_f (Ev.now _)
  | succ d ih =>
    intro r hr
    have h := ih (r + 1) (by omega)
    rw [show (((r + 1 : Nat) : Int)) = (r : Int) + 1 by omega] at h
    refine ev_succ ?_
    simp only [haulierlaw36_MoveKeeps.l0, if_pos (show (r : Int) < (x0.length : Int) by omega), if_pos (show (r : Int) < (x5.length : Int) by omega), if_pos (show (0 : Int) ≤ (r : Int) by omega), if_pos (ht r (by omega))]
    rw [← w64 (x := (r : Int) + 1) (by omega) (by omega)] at h
    have a5 := s5 _ (rd35_mem x5 r (by omega))
    have a0 := s0 _ (rd35_mem x0 r (by omega))
    have g2 := keeps_l2 x0 x5 (x0.length : Int) (r : Int) (rd_T35 x5 (r : Int)).f1 a5 h0 (by omega) s0 s5 he true h _ 0 (Nat.zero_add _)
    exact keeps_l1 x0 x5 (x0.length : Int) (r : Int) (by omega) (by omega) (rd_T35 x0 (r : Int)).f1 a0 h0 (by omega) s0 s5 he true g2 _ 0 (Nat.zero_add _)
theorem MoveKeeps : haulierlaw36_MoveKeeps.Pure := by
  intro l k a i b j n _ _ _ _ _ _ _ _
  refine Ev.rounds ?_
  unfold haulierlaw36_MoveKeeps.f
  refine Ev.bind (light_f l 20 60 (by decide)) ?_
  cases hL : lightS l 20 60
  · simp only [Bool.false_eq_true, if_false]
    exact Ev.bind alive_f (Ev.now _)
  · obtain ⟨hl, hs⟩ := light_yes hL
    simp only [if_true]
    have hl' : l.length ≤ 20 := by omega
    have hs' : ∀ x ∈ l, x.f1.length ≤ 60 := fun x hx => by have := hs x hx; omega
    refine Ev.bind (apply_f l (by omega) (fun x hx => by have := hs x hx; omega) k a i b j n) ?_
    rcases ap_cases (l.map tS) k a i b j n with e | ⟨h1, h2, e⟩
    · rw [e]
      simp only [Bool.false_eq_true, if_false, List.length_nil, Int.natCast_zero, if_true]
      exact Ev.bind alive_f (Ev.now _)
    · rw [e]
      obtain ⟨g1, g2⟩ := ap_bounds hl' hs' h1
      simp only [if_true, if_pos (show ((((doS (l.map tS) k a i b j n).2.map tB).length : Nat) : Int) = (l.length : Int) by omega)]
      refine keeps_l0 l _ (by omega) g1 (fun x hx => by have := hs' x hx; omega) (fun x hx => by have := g2 x hx; omega) (fun id => ?_) (fun q hq => ?_) l.length 0 (by omega)
      · unfold cnt
        rw [map_SB]
        exact do_sum (adds_count id) (l.map tS) k a i b j n h1
      · have e1 := do_tr (l.map tS) k a i b j n q
        have e2 : ∀ m : List S35, q < m.length → (rd_T35 m (q : Int)).f0 = tr (m.map tS) q := by
          intro m hm
          simp [rd_T35, tr, hm, move_Apply.tS]
        rw [e2 _ (by omega), e2 _ hq, map_SB, e1]


end Go.Proofs.Ytcofibbgdnbejaa.Pure
