/- Every way in which the same stops can stand on the same trucks is reached by relocations: lemmas on routes and moves, and the pure statement of MoveReaches. -/
import Derived.Test.YtcofibbgdnbejaaMMoveReachesx4
import Derived.Test.YtcofibbgdnbejaaMv15
set_option linter.unusedVariables false
set_option linter.unusedSimpArgs false
namespace Go.Proofs.Ytcofibbgdnbejaa.Pure
open Go.RowKit Go.Proofs.Ytcofibbgdnbejaa.MMoveReaches Go.Proofs.YtcofibbgdnbejaaW.PrintWords Go.Proofs.YtcofibbgdnbejaaW.PrintLast

theorem w64 {x : Int} (h0 : -9223372036854775808 ≤ x) (h1 : x ≤ 9223372036854775807) : wrap64 x = x := by
  unfold wrap64
  omega
theorem tmod_nn {a : Int} (h : 0 ≤ a) (b : Int) : Int.tmod a b = a % b := by
  rw [Int.tmod_eq_emod_of_nonneg h]
theorem tdiv_nn {a : Int} (h : 0 ≤ a) (b : Int) : Int.tdiv a b = a / b := by
  rw [Int.tdiv_eq_ediv_of_nonneg h]
theorem ev_succ {α : Type} {g : Nat → Option α} {r : α} (h : Ev (fun k => g (k + 1)) r) : Ev g r := by
  obtain ⟨K, h⟩ := h
  refine ⟨K + 1, fun n hn => ?_⟩
  obtain ⟨m, rfl⟩ : ∃ m, n = m + 1 := ⟨n - 1, by omega⟩
  exact h m (by omega)

def IR (x : Int) : Prop := -9223372036854775808 ≤ x ∧ x ≤ 9223372036854775807
theorem ir_of {x : Int} (h : (Lit.int .i64 x).wf = true) : IR x := by simpa [IR, Lit.wf, IntKind.min, IntKind.max, IntKind.signed, IntKind.bits] using h
theorem rd_drop (xs : List Int) (i : Nat) (h : i < xs.length) : xs.drop i = rd xs (i : Int) :: xs.drop (i + 1) := by
  rw [List.drop_eq_getElem_cons h]
  simp [rd, h]
theorem rd_mem (xs : List Int) (i : Nat) (h : i < xs.length) : rd xs (i : Int) ∈ xs := by
  simp [rd, h]

/-! routes: Light, the same routes, move.own, move.Apply, alive -/
open Go.Proofs.Ytcofibbgdnbejaa.Mv2 Go.Proofs.Ytcofibbgdnbejaa.Mv8 Go.Proofs.Ytcofibbgdnbejaa.Mv13 Go.Proofs.Ytcofibbgdnbejaa.Mv14
theorem rd35_drop (xs : List S35) (i : Nat) (h : i < xs.length) : xs.drop i = rd_T35 xs (i : Int) :: xs.drop (i + 1) := by
  rw [List.drop_eq_getElem_cons h]
  simp [rd_T35, h]
theorem rd35_mem (xs : List S35) (i : Nat) (h : i < xs.length) : rd_T35 xs (i : Int) ∈ xs := by
  simp [rd_T35, h]
theorem light_l0 (s : Int) (l : List S35) (hl : l.length ≤ 1000000) (d : Nat) : ∀ i : Nat, i + d = l.length → Ev (fun k => haulierlaw36_Light.l0 k s l (l.length : Int) (i : Int)) ((l.drop i).all fun x => decide ((x.f1.length : Int) ≤ s)) := by
  induction d with
  | zero =>
    intro i hi
    refine ev_succ ?_
    simp only [haulierlaw36_Light.l0, if_neg (show ¬ (i : Int) < (l.length : Int) by omega)]
    rw [List.drop_of_length_le (by omega)]
    exact Ev.now _
  | succ d ih =>
    intro i hi
    have h := ih (i + 1) (by omega)
    rw [show (((i + 1 : Nat) : Int)) = (i : Int) + 1 by omega] at h
    refine ev_succ ?_
    simp only [haulierlaw36_Light.l0, if_pos (show (i : Int) < (l.length : Int) by omega), if_pos (show (0 : Int) ≤ (i : Int) by omega), w64 (x := (i : Int) + 1) (by omega) (by omega)]
    rw [rd35_drop l i (by omega), List.all_cons]
    by_cases c : ((rd_T35 l (i : Int)).f1.length : Int) > s
    · simp only [if_pos c]
      rw [decide_eq_false (by omega : ¬ ((rd_T35 l (i : Int)).f1.length : Int) ≤ s)]
      exact Ev.now _
    · simp only [if_neg c]
      rw [decide_eq_true (by omega : ((rd_T35 l (i : Int)).f1.length : Int) ≤ s), Bool.true_and]
      exact h
def lightS (l : List S35) (a s : Int) : Bool := decide ((l.length : Int) ≤ a) && l.all fun x => decide ((x.f1.length : Int) ≤ s)
theorem light_f (l : List S35) (a s : Int) (ha : a ≤ 1000000) : Ev (fun k => haulierlaw36_Light.f k l a s) (lightS l a s) := by
  unfold haulierlaw36_Light.f lightS
  by_cases c : (l.length : Int) > a
  · simp only [if_pos c]
    rw [decide_eq_false (by omega : ¬ (l.length : Int) ≤ a)]
    exact Ev.now _
  · simp only [if_neg c]
    rw [decide_eq_true (by omega : (l.length : Int) ≤ a), Bool.true_and]
    exact light_l0 s l (by omega) l.length 0 (by omega)
theorem light_yes {l : List S35} {a s : Int} (h : lightS l a s = true) : (l.length : Int) ≤ a ∧ ∀ x ∈ l, (x.f1.length : Int) ≤ s := by
  unfold lightS at h
  rw [Bool.and_eq_true, List.all_eq_true] at h
  exact ⟨of_decide_eq_true h.1, fun x hx => of_decide_eq_true (h.2 x hx)⟩
theorem own_l0 (l : List S35) (hl : l.length ≤ 1000000) (hs : ∀ x ∈ l, x.f1.length ≤ 1000000) (d : Nat) : ∀ (i : Nat) (acc : List S35), i + d = l.length → acc.length = i → Ev (fun k => move_own.l0 k acc l (l.length : Int) (i : Int)) (acc ++ l.drop i) := by
  induction d with
  | zero =>
    intro i acc hi ha
    refine ev_succ ?_
    simp only [move_own.l0, if_neg (show ¬ (i : Int) < (l.length : Int) by omega)]
    rw [List.drop_of_length_le (by omega), List.append_nil]
    exact Ev.now _
  | succ d ih =>
    intro i acc hi ha
    have h := ih (i + 1) (acc ++ [rd_T35 l (i : Int)]) (by omega) (by simp; omega)
    rw [show (((i + 1 : Nat) : Int)) = (i : Int) + 1 by omega] at h
    rw [rd35_drop l i (by omega)]
    rw [List.append_assoc, List.singleton_append] at h
    refine ev_succ ?_
    have hx := hs _ (rd35_mem l i (by omega))
    simp only [move_own.l0, if_pos (show (i : Int) < (l.length : Int) by omega), if_pos (show (0 : Int) ≤ (i : Int) by omega), w64 (x := (i : Int) + 1) (by omega) (by omega), slices_Clone_int_int.f, if_pos (show (rd_T35 l (i : Int)).f1.length < 1099511627776 by omega), Option.bind_some, if_pos (show acc.length < 4398046511104 by omega)]
    exact h
theorem own_f (l : List S35) (hl : l.length ≤ 1000000) (hs : ∀ x ∈ l, x.f1.length ≤ 1000000) : Ev (fun k => move_own.f k l) l := by
  unfold move_own.f
  exact own_l0 l hl hs l.length 0 [] (by omega) rfl
abbrev tS := move_Apply.tS
abbrev tB := move_Apply.tB
theorem apply_f (l : List S35) (hl : l.length ≤ 1000000) (hs : ∀ x ∈ l, x.f1.length ≤ 1000000) (k a i b j n : Int) : Ev (fun q => move_Apply.f q l k a i b j n) (ap tB (l.map tS) k a i b j n) := by
  unfold move_Apply.f
  refine Ev.bind (own_f l hl hs) ?_
  rw [if_pos ⟨rfl, by rw [List.all_eq_true]; exact fun x hx => decide_eq_true (hs x hx)⟩]
  exact Ev.now _
theorem map_BS (l : List S35) : (l.map tS).map tB = l := by
  rw [List.map_map, show (tB ∘ tS) = id from rfl, List.map_id]
theorem map_SB (rs : List Rt) : (rs.map tB).map tS = rs := by
  rw [List.map_map, show (tS ∘ tB) = id from rfl, List.map_id]
theorem ap_cases (rs : List Rt) (k a i b j n : Int) : (ap tB rs k a i b j n = ([], false)) ∨ ((doS rs k a i b j n).1 = true ∧ ¬ rs = (doS rs k a i b j n).2 ∧ ap tB rs k a i b j n = ((doS rs k a i b j n).2.map tB, true)) := by
  unfold ap
  split
  · rename_i c
    exact .inr ⟨c.1, c.2, rfl⟩
  · exact .inl rfl
theorem same_l0 (a b : List Int) (hl : a.length = b.length) (ha : a.length ≤ 1000000) (d : Nat) : ∀ i : Nat, i + d = a.length → Ev (fun k => haulierref35_same.l0 k a b (i : Int)) (decide (a.drop i = b.drop i)) := by
  induction d with
  | zero =>
    intro i hi
    refine ev_succ ?_
    simp only [haulierref35_same.l0, if_neg (show ¬ (i : Int) < (a.length : Int) by omega)]
    rw [List.drop_of_length_le (by omega), List.drop_of_length_le (by omega)]
    exact Ev.now _
  | succ d ih =>
    intro i hi
    have h := ih (i + 1) (by omega)
    rw [show (((i + 1 : Nat) : Int)) = (i : Int) + 1 by omega] at h
    refine ev_succ ?_
    simp only [haulierref35_same.l0, if_pos (show (i : Int) < (a.length : Int) by omega), if_pos (show (i : Int) < (b.length : Int) by omega), if_pos (show (0 : Int) ≤ (i : Int) by omega), w64 (x := (i : Int) + 1) (by omega) (by omega)]
    rw [rd_drop a i (by omega), rd_drop b i (by omega)]
    by_cases c : rd a (i : Int) = rd b (i : Int)
    · simp only [if_pos c]
      rw [show decide (rd a (i : Int) :: a.drop (i + 1) = rd b (i : Int) :: b.drop (i + 1)) = decide (a.drop (i + 1) = b.drop (i + 1)) by simp [c]]
      exact h
    · simp only [if_neg c]
      rw [decide_eq_false (by simp [c])]
      exact Ev.now _
theorem same_f (a b : List Int) (ha : a.length ≤ 1000000) : Ev (fun k => haulierref35_same.f k a b) (decide (a = b)) := by
  unfold haulierref35_same.f
  by_cases c : (a.length : Int) = (b.length : Int)
  · simp only [if_pos c]
    exact same_l0 a b (by omega) ha a.length 0 (by omega)
  · simp only [if_neg c]
    rw [decide_eq_false (fun e => c (by rw [e]))]
    exact Ev.now _
theorem s35_ext (x y : S35) : x = y ↔ x.f0 = y.f0 ∧ x.f1 = y.f1 := by
  cases x
  cases y
  simp
theorem alike_l0 (a b : List S35) (hl : a.length = b.length) (ha : a.length ≤ 1000000) (hs : ∀ x ∈ a, x.f1.length ≤ 1000000) (d : Nat) : ∀ i : Nat, i + d = a.length → ∃ r, Ev (fun k => haulierref35_Alike.l0 k a b (i : Int)) r ∧ (r = true ↔ a.drop i = b.drop i) := by
  induction d with
  | zero =>
    intro i hi
    refine ⟨true, ev_succ ?_, ?_⟩
    · simp only [haulierref35_Alike.l0, if_neg (show ¬ (i : Int) < (a.length : Int) by omega)]
      exact Ev.now _
    · rw [List.drop_of_length_le (by omega), List.drop_of_length_le (by omega)]
      simp
  | succ d ih =>
    intro i hi
    obtain ⟨r, h, hr⟩ := ih (i + 1) (by omega)
    rw [show (((i + 1 : Nat) : Int)) = (i : Int) + 1 by omega] at h
    rw [rd35_drop a i (by omega), rd35_drop b i (by omega)]
    by_cases c : (rd_T35 a (i : Int)).f0 = (rd_T35 b (i : Int)).f0
    · by_cases c2 : (rd_T35 a (i : Int)).f1 = (rd_T35 b (i : Int)).f1
      · refine ⟨r, ev_succ ?_, ?_⟩
        · simp only [haulierref35_Alike.l0, if_pos (show (i : Int) < (a.length : Int) by omega), if_pos (show (i : Int) < (b.length : Int) by omega), if_pos (show (0 : Int) ≤ (i : Int) by omega), w64 (x := (i : Int) + 1) (by omega) (by omega), if_pos c]
          refine Ev.bind (same_f _ _ (hs _ (rd35_mem a i (by omega)))) ?_
          simp only [decide_eq_true c2, if_true]
          exact h
        · rw [hr, List.cons.injEq, s35_ext]
          simp [c, c2]
      · refine ⟨false, ev_succ ?_, ?_⟩
        · simp only [haulierref35_Alike.l0, if_pos (show (i : Int) < (a.length : Int) by omega), if_pos (show (i : Int) < (b.length : Int) by omega), if_pos (show (0 : Int) ≤ (i : Int) by omega), w64 (x := (i : Int) + 1) (by omega) (by omega), if_pos c]
          refine Ev.bind (same_f _ _ (hs _ (rd35_mem a i (by omega)))) ?_
          simp only [decide_eq_false c2, Bool.false_eq_true, if_false]
          exact Ev.now _
        · rw [List.cons.injEq, s35_ext]
          simp [c2]
    · refine ⟨false, ev_succ ?_, ?_⟩
      · simp only [haulierref35_Alike.l0, if_pos (show (i : Int) < (a.length : Int) by omega), if_pos (show (i : Int) < (b.length : Int) by omega), if_pos (show (0 : Int) ≤ (i : Int) by omega), if_neg c]
        exact Ev.now _
      · rw [List.cons.injEq, s35_ext]
        simp [c]
theorem alike_f (a b : List S35) (ha : a.length ≤ 1000000) (hs : ∀ x ∈ a, x.f1.length ≤ 1000000) : ∃ r, Ev (fun k => haulierref35_Alike.f k a b) r ∧ (r = true ↔ a = b) := by
  unfold haulierref35_Alike.f
  by_cases c : (a.length : Int) = (b.length : Int)
  · simp only [if_pos c]
    exact alike_l0 a b (by omega) ha hs a.length 0 (by omega)
  · simp only [if_neg c]
    exact ⟨false, Ev.now _, by simp; exact fun e => c (by rw [e])⟩
theorem alike_yes (a : List S35) (ha : a.length ≤ 1000000) (hs : ∀ x ∈ a, x.f1.length ≤ 1000000) : Ev (fun k => haulierref35_Alike.f k a a) true := by
  obtain ⟨r, h, hr⟩ := alike_f a a ha hs
  rw [hr.2 rfl] at h
  exact h
theorem alive_f : Ev (fun k => haulierlaw36_alive.f k) true := by
  unfold haulierlaw36_alive.f
  refine Ev.bind (apply_f _ (by simp) (by simp) 4 0 1 1 2 0) ?_
  rw [show ap tB ([(⟨1, [1, 2, 3]⟩ : S35), (⟨2, [4, 5]⟩ : S35)].map tS) 4 0 1 1 2 0 = ([(⟨1, [1]⟩ : S35), (⟨2, [4, 5, 2, 3]⟩ : S35)], true) from rfl]
  simp only [if_true]
  refine Ev.bind (alike_yes _ (by simp) (by simp)) ?_
  simp only [if_true]
  exact Ev.now _

/-! how often a stop stands on routes -/
def cnt (l : List S35) (id : Int) : Nat := Sm (fun x => x.count id) (l.map tS)
theorem times_l1 (id : Int) (l : List S35) (L r : Int) (xs : List Int) (hx : xs.length ≤ 1000000) (R : Int) (d : Nat) : ∀ (p : Nat) (acc : Int), p + d = xs.length → 0 ≤ acc → acc ≤ 1000000000000 + p →
    Ev (fun k => haulierlaw36_times.l0 k id (acc + (((xs.drop p).count id : Nat) : Int)) l L (wrap64 (r + 1))) R → Ev (fun k => haulierlaw36_times.l1 k id acc l L r xs (xs.length : Int) (p : Int)) R := by
  induction d with
  | zero =>
    intro p acc hp h0 h1 h
    refine ev_succ ?_
    simp only [haulierlaw36_times.l1, if_neg (show ¬ (p : Int) < (xs.length : Int) by omega)]
    rw [List.drop_of_length_le (by omega)] at h
    simpa using h
  | succ d ih =>
    intro p acc hp h0 h1 h
    rw [rd_drop xs p (by omega)] at h
    refine ev_succ ?_
    simp only [haulierlaw36_times.l1, if_pos (show (p : Int) < (xs.length : Int) by omega), if_pos (show (0 : Int) ≤ (p : Int) by omega), w64 (x := (p : Int) + 1) (by omega) (by omega), w64 (x := acc + 1) (by omega) (by omega)]
    by_cases c : rd xs (p : Int) = id
    · simp only [if_pos c]
      have h2 := ih (p + 1) (acc + 1) (by omega) (by omega) (by omega) (by
        rw [c, List.count_cons_self] at h
        rw [show acc + 1 + (((xs.drop (p + 1)).count id : Nat) : Int) = acc + (((xs.drop (p + 1)).count id + 1 : Nat) : Int) by omega]
        exact h)
      rw [show (((p + 1 : Nat) : Int)) = (p : Int) + 1 by omega] at h2
      exact h2
    · simp only [if_neg c]
      have h2 := ih (p + 1) acc (by omega) (by omega) (by omega) (by
        rw [List.count_cons_of_ne c] at h
        exact h)
      rw [show (((p + 1 : Nat) : Int)) = (p : Int) + 1 by omega] at h2
      exact h2
theorem times_l0 (id : Int) (l : List S35) (hl : l.length ≤ 1000) (hs : ∀ x ∈ l, x.f1.length ≤ 1000000) (d : Nat) : ∀ (r : Nat) (acc : Nat), r + d = l.length → acc ≤ 1000000 * r → Ev (fun k => haulierlaw36_times.l0 k id (acc : Int) l (l.length : Int) (r : Int)) ((acc + cnt (l.drop r) id : Nat) : Int) := by
  induction d with
  | zero =>
    intro r acc hr ha
    refine ev_succ ?_
    simp only [haulierlaw36_times.l0, if_neg (show ¬ (r : Int) < (l.length : Int) by omega)]
    rw [List.drop_of_length_le (by omega)]
    exact Ev.now _
  | succ d ih =>
    intro r acc hr ha
    have hx := hs _ (rd35_mem l r (by omega))
    have hc := List.count_le_length (a := id) (l := (rd_T35 l (r : Int)).f1)
    have h := ih (r + 1) (acc + ((rd_T35 l (r : Int)).f1).count id) (by omega) (by omega)
    rw [rd35_drop l r (by omega)]
    rw [show acc + cnt (rd_T35 l (r : Int) :: l.drop (r + 1)) id = acc + ((rd_T35 l (r : Int)).f1).count id + cnt (l.drop (r + 1)) id from by
      unfold cnt Sm
      simp only [List.map_cons, List.sum_cons]
      change acc + (((rd_T35 l (r : Int)).f1).count id + _) = _
      omega]
    refine ev_succ ?_
    simp only [haulierlaw36_times.l0, if_pos (show (r : Int) < (l.length : Int) by omega), if_pos (show (0 : Int) ≤ (r : Int) by omega)]
    have h2 := times_l1 id l (l.length : Int) (r : Int) (rd_T35 l (r : Int)).f1 hx _ _ 0 (acc : Int) (Nat.zero_add _) (by omega) (by omega) (by
      rw [w64 (x := (r : Int) + 1) (by omega) (by omega), List.drop_zero]
      rw [show (((r + 1 : Nat) : Int)) = (r : Int) + 1 by omega] at h
      simp only [Int.natCast_add] at h ⊢
      exact h)
    exact h2
theorem times_f (l : List S35) (id : Int) (hl : l.length ≤ 1000) (hs : ∀ x ∈ l, x.f1.length ≤ 1000000) : Ev (fun k => haulierlaw36_times.f k l id) (cnt l id : Int) := by
  unfold haulierlaw36_times.f
  have h := times_l0 id l hl hs l.length 0 0 (by omega) (by omega)
  simpa using h

/-! where a stop stands that is not where it must be yet -/
open Go.Proofs.Ytcofibbgdnbejaa.Mv15 (fr fr_at inv_next inv_find inv_keep inv_end inv_step)
abbrev Inv := Go.Proofs.Ytcofibbgdnbejaa.Mv15.Inv
theorem st_rd (l : List S35) (a : Nat) : st (l.map tS) a = (rd_T35 l (a : Int)).f1 := by
  unfold st rd_T35
  by_cases h : a < l.length
  · simp [List.getD, h, move_Apply.tS]
  · simp [List.getD, List.getElem?_eq_none (by omega : l.length ≤ a), z35]
theorem rd_nat (xs : List Int) (i : Nat) : rd xs (i : Int) = xs.getD i 0 := rfl
def Out (rs W : List Rt) (b k : Nat) (id : Int) (a0 : Nat) (R : Int × Int × Bool) : Prop :=
  (∃ a i : Nat, a0 ≤ a ∧ a < rs.length ∧ fr W b k a ≤ i ∧ i < (st rs a).length ∧ (st rs a).getD i 0 = id ∧ R = ((a : Int), (i : Int), true)) ∨ (R = (0, 0, false) ∧ ∀ a i : Nat, a0 ≤ a → a < rs.length → fr W b k a ≤ i → i < (st rs a).length → (st rs a).getD i 0 ≠ id)
theorem find_l1 (x0 x1 : List S35) (x2 x3 x4 : Int) (a : Nat) (ha : a < x0.length) (hl : (st (x0.map tS) a).length ≤ 1000000) (L : Int) (R' : Int × Int × Bool) (hn : Ev (fun q => haulierlaw36_find.l0 q x0 x1 x2 x3 x4 L (wrap64 ((a : Int) + 1))) R') (d : Nat) : ∀ p : Nat, (p + d = (st (x0.map tS) a).length ∨ (d = 0 ∧ (st (x0.map tS) a).length ≤ p)) →
    ∃ R, Ev (fun q => haulierlaw36_find.l1 q x0 x1 x2 x3 x4 (a : Int) (p : Int) L (a : Int)) R ∧ ((∃ i : Nat, p ≤ i ∧ i < (st (x0.map tS) a).length ∧ (st (x0.map tS) a).getD i 0 = x4 ∧ R = ((a : Int), (i : Int), true)) ∨ (R = R' ∧ ∀ i : Nat, p ≤ i → i < (st (x0.map tS) a).length → (st (x0.map tS) a).getD i 0 ≠ x4)) := by
  rw [st_rd] at hl ⊢
  induction d with
  | zero =>
    intro p hp
    refine ⟨R', ev_succ ?_, .inr ⟨rfl, fun i h1 h2 => by omega⟩⟩
    simp only [haulierlaw36_find.l1, if_pos (show (0 : Int) ≤ (a : Int) by omega), if_pos (show (a : Int) < (x0.length : Int) by omega), if_neg (show ¬ (p : Int) < (((rd_T35 x0 (a : Int)).f1).length : Int) by omega)]
    exact hn
  | succ d ih =>
    intro p hp
    have hp' : p < ((rd_T35 x0 (a : Int)).f1).length := by omega
    by_cases c : rd (rd_T35 x0 (a : Int)).f1 (p : Int) = x4
    · refine ⟨((a : Int), (p : Int), true), ev_succ ?_, .inl ⟨p, Nat.le_refl _, hp', c, rfl⟩⟩
      simp only [haulierlaw36_find.l1, if_pos (show (0 : Int) ≤ (a : Int) by omega), if_pos (show (a : Int) < (x0.length : Int) by omega), if_pos (show (p : Int) < (((rd_T35 x0 (a : Int)).f1).length : Int) by omega), if_pos (show (0 : Int) ≤ (p : Int) by omega), if_pos c]
      exact Ev.now _
    · obtain ⟨R, h, ho⟩ := ih (p + 1) (by omega)
      rw [show (((p + 1 : Nat) : Int)) = (p : Int) + 1 by omega] at h
      refine ⟨R, ev_succ ?_, ?_⟩
      · simp only [haulierlaw36_find.l1, if_pos (show (0 : Int) ≤ (a : Int) by omega), if_pos (show (a : Int) < (x0.length : Int) by omega), if_pos (show (p : Int) < (((rd_T35 x0 (a : Int)).f1).length : Int) by omega), if_pos (show (0 : Int) ≤ (p : Int) by omega), if_neg c, w64 (x := (p : Int) + 1) (by omega) (by omega)]
        exact h
      · rcases ho with ⟨i, h1, h2, h3, h4⟩ | ⟨h1, h2⟩
        · exact .inl ⟨i, by omega, h2, h3, h4⟩
        · refine .inr ⟨h1, fun i g1 g2 => ?_⟩
          by_cases e : i = p
          · subst e
            exact c
          · exact h2 i (by omega) g2
theorem find_l0 (x0 x1 : List S35) (b k : Nat) (x4 : Int) (hlen : x0.length = x1.length) (hl : x0.length ≤ 1000000) (hs : ∀ a, (st (x0.map tS) a).length ≤ 1000000) (d : Nat) : ∀ a : Nat, a + d = x0.length → ∃ R, Ev (fun q => haulierlaw36_find.l0 q x0 x1 (b : Int) (k : Int) x4 (x0.length : Int) (a : Int)) R ∧ Out (x0.map tS) (x1.map tS) b k x4 a R := by
  induction d with
  | zero =>
    intro a ha
    refine ⟨(0, 0, false), ev_succ ?_, .inr ⟨rfl, fun a' i h1 h2 => by rw [List.length_map] at h2; omega⟩⟩
    simp only [haulierlaw36_find.l0, if_neg (show ¬ (a : Int) < (x0.length : Int) by omega)]
    exact Ev.now _
  | succ d ih =>
    intro a ha
    obtain ⟨R', h, ho⟩ := ih (a + 1) (by omega)
    rw [show (((a + 1 : Nat) : Int)) = (a : Int) + 1 by omega, ← w64 (x := (a : Int) + 1) (by omega) (by omega)] at h
    have hf := fun p hp => find_l1 x0 x1 (b : Int) (k : Int) x4 a (by omega) (hs a) (x0.length : Int) R' h ((st (x0.map tS) a).length - p) p hp
    obtain ⟨R, g, go⟩ := hf (fr (x1.map tS) b k a) (by omega)
    refine ⟨R, ?_, ?_⟩
    · refine ev_succ ?_
      have hb : Ev (fun q => haulierlaw36_find.j1 q x0 x1 (b : Int) (k : Int) x4 (a : Int) (if (a : Int) < (b : Int) then ((rd_T35 x1 (a : Int)).f1.length : Int) else 0) (x0.length : Int) (a : Int)) R := by
        refine ev_succ ?_
        by_cases c : (a : Int) = (b : Int)
        · simp only [haulierlaw36_find.j1, if_pos c]
          refine ev_succ ?_
          simp only [haulierlaw36_find.j2]
          have : fr (x1.map tS) b k a = k := by
            obtain rfl : a = b := by omega
            exact fr_at _ _ _
          rw [this] at g
          exact g
        · simp only [haulierlaw36_find.j1, if_neg c]
          refine ev_succ ?_
          simp only [haulierlaw36_find.j2]
          have : ((fr (x1.map tS) b k a : Nat) : Int) = if (a : Int) < (b : Int) then ((rd_T35 x1 (a : Int)).f1.length : Int) else 0 := by
            unfold fr
            by_cases d' : a < b
            · rw [if_pos d', if_pos (by omega), st_rd]
            · rw [if_neg d', if_neg (by omega), if_neg (by omega)]
              rfl
          rw [this] at g
          exact g
      by_cases c : (a : Int) < (b : Int)
      · simp only [haulierlaw36_find.l0, if_pos (show (a : Int) < (x0.length : Int) by omega), if_pos c, if_pos (show (0 : Int) ≤ (a : Int) by omega), if_pos (show (a : Int) < (x1.length : Int) by omega)]
        simp only [if_pos c] at hb
        exact hb
      · simp only [haulierlaw36_find.l0, if_pos (show (a : Int) < (x0.length : Int) by omega), if_neg c]
        simp only [if_neg c] at hb
        exact hb
    · rcases go with ⟨i, h1, h2, h3, h4⟩ | ⟨h1, h2⟩
      · exact .inl ⟨a, i, Nat.le_refl _, by rw [List.length_map]; omega, h1, h2, h3, h4⟩
      · rcases ho with ⟨a', i, g1, g2, g3, g4, g5, g6⟩ | ⟨g1, g2⟩
        · exact .inl ⟨a', i, by omega, g2, g3, g4, g5, by rw [h1, g6]⟩
        · refine .inr ⟨by rw [h1, g1], fun a' i q1 q2 q3 q4 => ?_⟩
          by_cases e : a' = a
          · subst e
            exact h2 i q3 q4
          · exact g2 a' i (by omega) q2 q3 q4
theorem find_f (x0 x1 : List S35) (b k : Nat) (x4 : Int) (hlen : x0.length = x1.length) (hl : x0.length ≤ 1000000) (hs : ∀ a, (st (x0.map tS) a).length ≤ 1000000) : ∃ R, Ev (fun q => haulierlaw36_find.f q x0 x1 (b : Int) (k : Int) x4) R ∧ Out (x0.map tS) (x1.map tS) b k x4 0 R := by
  unfold haulierlaw36_find.f
  exact find_l0 x0 x1 b k x4 hlen hl hs x0.length 0 (by omega)

theorem len_bound (W : List Rt) (hW : W.length ≤ 12) (hs : ∀ a, (st W a).length ≤ 20) : Sm (fun l => l.length) W ≤ 240 := by
  have : ∀ m : List Rt, (∀ r ∈ m, r.2.length ≤ 20) → Sm (fun l => l.length) m ≤ 20 * m.length := by
    intro m
    induction m with
    | nil => intro _; simp [Sm]
    | cons y t ih =>
      intro h2
      have := ih (fun x hx => h2 x (List.mem_cons_of_mem _ hx))
      have h3 := h2 y List.mem_cons_self
      simp only [Sm, List.map_cons, List.sum_cons, List.length_cons] at this ⊢
      omega
  have h := this W (fun r hr => by
    obtain ⟨q, hq, e⟩ := List.getElem_of_mem hr
    have := hs q
    unfold st at this
    simp [List.getD, hq, e] at this
    exact this)
  omega
theorem inv_len {W rs : List Rt} {b k : Nat} (h : Inv W rs b k) : Sm (fun l => l.length) rs = Sm (fun l => l.length) W := by
  have fl : ∀ (f : List Int → Nat), (∀ x y, f (x ++ y) = f x + f y) → f [] = 0 → ∀ R : List Rt, Sm f R = f ((R.map fun r => r.2).flatten) := by
    intro f ha h0 R
    induction R with
    | nil => simp [Sm, h0]
    | cons r t ih =>
      simp only [Sm, List.map_cons, List.sum_cons, List.flatten_cons] at ih ⊢
      rw [ha, ih]
  have hp : ((rs.map fun r => r.2).flatten).Perm ((W.map fun r => r.2).flatten) := by
    rw [List.perm_iff_count]
    intro id
    have := h.cnts id
    rw [fl _ (fun x y => List.count_append) rfl, fl _ (fun x y => List.count_append) rfl] at this
    exact this
  rw [fl _ (fun x y => List.length_append) rfl, fl _ (fun x y => List.length_append) rfl]
  exact hp.length_eq
theorem inv_short {W rs : List Rt} {b k : Nat} (h : Inv W rs b k) (hW : W.length ≤ 12) (hs : ∀ a, (st W a).length ≤ 20) : rs.length ≤ 12 ∧ ∀ a, (st rs a).length ≤ 240 := by
  refine ⟨by rw [h.len]; exact hW, fun a => ?_⟩
  by_cases ha : a < rs.length
  · have h1 := Sm_le (fun l => l.length) rs a ha
    have h2 := inv_len h
    have h3 := len_bound W hW hs
    omega
  · unfold st
    simp [List.getD, List.getElem?_eq_none (by omega : rs.length ≤ a)]
theorem mem_short {l : List S35} {B : Nat} (hs : ∀ a, (st (l.map tS) a).length ≤ B) : ∀ x ∈ l, x.f1.length ≤ B := by
  intro x hx
  obtain ⟨q, hq, e⟩ := List.getElem_of_mem hx
  have := hs q
  rw [st_rd] at this
  simp [rd_T35, hq, e] at this
  exact this
section
variable (x1 : List S35) (hW : x1.length ≤ 12) (hs : ∀ a, (st (x1.map tS) a).length ≤ 20)
include hW hs
theorem reach_l3 (b : Nat) (hb : b < x1.length) (L : Int) (d : Nat) : ∀ (k : Nat) (x8 : List S35), k + d = (st (x1.map tS) b).length → Inv (x1.map tS) (x8.map tS) b k →
    (∀ x8 : List S35, Inv (x1.map tS) (x8.map tS) b (st (x1.map tS) b).length → Ev (fun q => haulierlaw36_MoveReaches.l2 q x1 x8 L (wrap64 ((b : Int) + 1))) true) →
    Ev (fun q => haulierlaw36_MoveReaches.l3 q x1 x8 (b : Int) L (b : Int) (rd_T35 x1 (b : Int)).f1 ((rd_T35 x1 (b : Int)).f1.length : Int) (k : Int)) true := by
  have hsb := hs b
  rw [st_rd] at hsb
  induction d with
  | zero =>
    intro k x8 hk hi hn
    obtain rfl : k = (st (x1.map tS) b).length := by omega
    refine ev_succ ?_
    rw [st_rd] at hi hn ⊢
    simp only [haulierlaw36_MoveReaches.l3, if_neg (show ¬ (((rd_T35 x1 (b : Int)).f1.length : Nat) : Int) < ((rd_T35 x1 (b : Int)).f1.length : Int) by omega)]
    exact hn x8 hi
  | succ d ih =>
    intro k x8 hk hi hn
    have hkl : k < (st (x1.map tS) b).length := by omega
    have hkl' : k < (rd_T35 x1 (b : Int)).f1.length := by rw [← st_rd]; exact hkl
    have hl8 : x8.length = x1.length := by have := hi.len; simpa using this
    obtain ⟨s1, s2⟩ := inv_short hi (by simpa using hW) hs
    have hnext : ∀ x8 : List S35, Inv (x1.map tS) (x8.map tS) b (k + 1) → Ev (fun q => haulierlaw36_MoveReaches.l3 q x1 x8 (b : Int) L (b : Int) (rd_T35 x1 (b : Int)).f1 ((rd_T35 x1 (b : Int)).f1.length : Int) (wrap64 ((k : Int) + 1))) true := by
      intro x8 hi'
      have h := ih (k + 1) x8 (by omega) hi' hn
      rw [show (((k + 1 : Nat) : Int)) = (k : Int) + 1 by omega, ← w64 (x := (k : Int) + 1) (by omega) (by omega)] at h
      exact h
    have hgo : ¬ (k < (st (x8.map tS) b).length ∧ (st (x8.map tS) b).getD k 0 = (st (x1.map tS) b).getD k 0) → Ev (fun q => haulierlaw36_MoveReaches.j5 q x1 x8 (b : Int) (k : Int) (rd (rd_T35 x1 (b : Int)).f1 (k : Int)) L (b : Int) (rd_T35 x1 (b : Int)).f1 ((rd_T35 x1 (b : Int)).f1.length : Int) (k : Int) false) true := by
      intro hne
      refine ev_succ ?_
      simp only [haulierlaw36_MoveReaches.j5, Bool.false_eq_true, if_false]
      obtain ⟨R, hR, ho⟩ := find_f x8 x1 b k (rd (rd_T35 x1 (b : Int)).f1 (k : Int)) hl8 (by omega) (fun a => by have := s2 a; omega)
      refine Ev.bind hR ?_
      have hid : rd (rd_T35 x1 (b : Int)).f1 (k : Int) = (st (x1.map tS) b).getD k 0 := by rw [st_rd]; rfl
      rcases ho with ⟨a, i, _, h1, h2, h3, h4, rfl⟩ | ⟨_, h2⟩
      · simp only [if_true]
        rw [hid] at h4
        have hst := inv_step hi (by simpa using hb) hkl (by rw [← hi.len]; exact h1) h2 h3 h4 hne
        refine Ev.bind (apply_f x8 (by omega) (fun x hx => by have := mem_short s2 x hx; omega) 1 (a : Int) (i : Int) (b : Int) (k : Int) 0) ?_
        have e : ap tB (x8.map tS) 1 (a : Int) (i : Int) (b : Int) (k : Int) 0 = ((doS (x8.map tS) 1 (a : Int) (i : Int) (b : Int) (k : Int) 0).2.map tB, true) := by
          unfold ap
          rw [if_pos ⟨hst.1, hst.2.1⟩]
        rw [e]
        have hl2 := doS_len (x8.map tS) 1 (a : Int) (i : Int) (b : Int) (k : Int) 0
        rw [List.length_map] at hl2
        simp only [if_true, if_pos (show ((((doS (x8.map tS) 1 (a : Int) (i : Int) (b : Int) (k : Int) 0).2.map tB).length : Nat) : Int) = (x1.length : Int) by rw [List.length_map]; omega)]
        refine hnext _ ?_
        rw [map_SB]
        exact hst.2.2
      · exfalso
        obtain ⟨a, i, g1, g2, g3, g4⟩ := inv_find hi (by simpa using hb) hkl
        refine h2 a i (Nat.zero_le _) (by rw [hi.len]; exact g1) g2 g3 ?_
        rw [g4, hid]
    refine ev_succ ?_
    simp only [haulierlaw36_MoveReaches.l3, if_pos (show (k : Int) < ((rd_T35 x1 (b : Int)).f1.length : Int) by omega), if_pos (show (0 : Int) ≤ (k : Int) by omega), if_neg (show ¬ (b : Int) ≥ (x8.length : Int) by omega), if_pos (show (0 : Int) ≤ (b : Int) by omega), if_pos (show (b : Int) < (x8.length : Int) by omega)]
    by_cases c : (k : Int) < ((rd_T35 x8 (b : Int)).f1.length : Int)
    · simp only [if_pos c]
      by_cases e : rd (rd_T35 x8 (b : Int)).f1 (k : Int) = rd (rd_T35 x1 (b : Int)).f1 (k : Int)
      · rw [beq_iff_eq.mpr e]
        refine ev_succ ?_
        simp only [haulierlaw36_MoveReaches.j5, if_true]
        refine hnext x8 (inv_keep hi (by simpa using hb) hkl (by rw [st_rd]; omega) ?_)
        rw [st_rd, st_rd]
        exact e
      · rw [beq_eq_false_iff_ne.mpr e]
        refine hgo (fun h => e ?_)
        have := h.2
        rw [st_rd, st_rd] at this
        exact this
    · simp only [if_neg c]
      refine hgo (fun h => c ?_)
      have := h.1
      rw [st_rd] at this
      omega
theorem reach_l2 (d : Nat) : ∀ (b : Nat) (x8 : List S35), b + d = x1.length → Inv (x1.map tS) (x8.map tS) b 0 → Ev (fun q => haulierlaw36_MoveReaches.l2 q x1 x8 (x1.length : Int) (b : Int)) true := by
  induction d with
  | zero =>
    intro b x8 hb hi
    refine ev_succ ?_
    simp only [haulierlaw36_MoveReaches.l2, if_neg (show ¬ (b : Int) < (x1.length : Int) by omega)]
    obtain rfl : b = (x1.map tS).length := by rw [List.length_map]; omega
    have he := inv_end hi
    rw [show move_Same.f x8 x1 = some true from by
      unfold move_Same.f
      rw [decide_eq_true (show x8.map move_Same.tS = x1.map move_Same.tS from he)]]
    simp only [Option.bind_some, if_true]
    exact Ev.bind alive_f (Ev.now _)
  | succ d ih =>
    intro b x8 hb hi
    refine ev_succ ?_
    simp only [haulierlaw36_MoveReaches.l2, if_pos (show (b : Int) < (x1.length : Int) by omega), if_pos (show (0 : Int) ≤ (b : Int) by omega)]
    refine reach_l3 x1 hW hs b (by omega) (x1.length : Int) (st (x1.map tS) b).length 0 x8 (Nat.zero_add _) hi (fun x8 hi' => ?_)
    have h := ih (b + 1) x8 (by omega) (inv_next hi')
    rw [show (((b + 1 : Nat) : Int)) = (b : Int) + 1 by omega, ← w64 (x := (b : Int) + 1) (by omega) (by omega)] at h
    exact h
end
theorem check_l1 (x0 x1 : List S35) (h0 : x0.length ≤ 12) (h1 : x1.length ≤ 12) (s0 : ∀ x ∈ x0, x.f1.length ≤ 20) (s1 : ∀ x ∈ x1, x.f1.length ≤ 20) (L i : Int) (xs : List Int) (hx : xs.length ≤ 1000000) (d : Nat) : ∀ p : Nat, p + d = xs.length → (∀ q : Nat, q < p → cnt x0 (rd xs (q : Int)) = cnt x1 (rd xs (q : Int))) →
    ((∀ q : Nat, q < xs.length → cnt x0 (rd xs (q : Int)) = cnt x1 (rd xs (q : Int))) → Ev (fun k => haulierlaw36_MoveReaches.l0 k x0 x1 L (wrap64 (i + 1))) true) → Ev (fun k => haulierlaw36_MoveReaches.l1 k x0 x1 L i xs (xs.length : Int) (p : Int)) true := by
  induction d with
  | zero =>
    intro p hp hq hn
    refine ev_succ ?_
    simp only [haulierlaw36_MoveReaches.l1, if_neg (show ¬ (p : Int) < (xs.length : Int) by omega)]
    exact hn (fun q h => hq q (by omega))
  | succ d ih =>
    intro p hp hq hn
    refine ev_succ ?_
    simp only [haulierlaw36_MoveReaches.l1, if_pos (show (p : Int) < (xs.length : Int) by omega), if_pos (show (0 : Int) ≤ (p : Int) by omega), w64 (x := (p : Int) + 1) (by omega) (by omega)]
    refine Ev.bind (times_f x0 _ (by omega) (fun x hx => by have := s0 x hx; omega)) ?_
    refine Ev.bind (times_f x1 _ (by omega) (fun x hx => by have := s1 x hx; omega)) ?_
    by_cases c : cnt x0 (rd xs (p : Int)) = cnt x1 (rd xs (p : Int))
    · simp only [c, if_true]
      have h := ih (p + 1) (by omega) (fun q h => by
        by_cases e : q = p
        · subst e
          exact c
        · exact hq q (by omega)) hn
      rw [show (((p + 1 : Nat) : Int)) = (p : Int) + 1 by omega] at h
      exact h
    · simp only [if_neg (show ¬ ((cnt x0 (rd xs (p : Int)) : Nat) : Int) = ((cnt x1 (rd xs (p : Int)) : Nat) : Int) by omega)]
      exact Ev.bind alive_f (Ev.now _)
def rowOK (x0 x1 : List S35) (j : Nat) : Prop := (rd_T35 x0 (j : Int)).f0 = (rd_T35 x1 (j : Int)).f0 ∧ ∀ id, id ∈ (rd_T35 x0 (j : Int)).f1 ++ (rd_T35 x1 (j : Int)).f1 → cnt x0 id = cnt x1 id
theorem check_l0 (x0 x1 : List S35) (hl : x0.length = x1.length) (h0 : x0.length ≤ 12) (s0 : ∀ x ∈ x0, x.f1.length ≤ 20) (s1 : ∀ x ∈ x1, x.f1.length ≤ 20) (hn : (∀ j, j < x0.length → rowOK x0 x1 j) → Ev (fun k => haulierlaw36_MoveReaches.l2 k x1 x0 (x1.length : Int) 0) true) (d : Nat) : ∀ i : Nat, i + d = x0.length → (∀ j, j < i → rowOK x0 x1 j) → Ev (fun k => haulierlaw36_MoveReaches.l0 k x0 x1 (x0.length : Int) (i : Int)) true := by
  induction d with
  | zero =>
    intro i hi hq
    refine ev_succ ?_
    simp only [haulierlaw36_MoveReaches.l0, if_neg (show ¬ (i : Int) < (x0.length : Int) by omega)]
    exact hn (fun j h => hq j (by omega))
  | succ d ih =>
    intro i hi hq
    have a0 := s0 _ (rd35_mem x0 i (by omega))
    have a1 := s1 _ (rd35_mem x1 i (by omega))
    refine ev_succ ?_
    simp only [haulierlaw36_MoveReaches.l0, if_pos (show (i : Int) < (x0.length : Int) by omega), if_pos (show (0 : Int) ≤ (i : Int) by omega), if_pos (show (i : Int) < (x1.length : Int) by omega)]
    by_cases c : (rd_T35 x0 (i : Int)).f0 = (rd_T35 x1 (i : Int)).f0
    · simp only [if_pos c, Option.bind_some, List.nil_append, List.length_nil, if_pos (show 0 + (rd_T35 x0 (i : Int)).f1.length < 17592186044416 by omega), if_pos (show (rd_T35 x0 (i : Int)).f1.length + (rd_T35 x1 (i : Int)).f1.length < 17592186044416 by omega)]
      refine check_l1 x0 x1 h0 (by omega) s0 s1 (x0.length : Int) (i : Int) _ (by rw [List.length_append]; omega) _ 0 (Nat.zero_add _) (fun q h => absurd h (Nat.not_lt_zero _)) (fun hall => ?_)
      have h := ih (i + 1) (by omega) (fun j h => by
        by_cases e : j = i
        · subst e
          refine ⟨c, fun id hid => ?_⟩
          obtain ⟨q, hq', e⟩ := List.getElem_of_mem hid
          have := hall q hq'
          rw [show rd ((rd_T35 x0 (j : Int)).f1 ++ (rd_T35 x1 (j : Int)).f1) (q : Int) = id from by rw [← e]; simp [rd, List.getD, List.getElem?_eq_getElem hq']] at this
          exact this
        · exact hq j (by omega))
      rw [show (((i + 1 : Nat) : Int)) = (i : Int) + 1 by omega, ← w64 (x := (i : Int) + 1) (by omega) (by omega)] at h
      exact h
    · simp only [if_neg c]
      exact Ev.bind alive_f (Ev.now _)
theorem cnt_zero (l : List S35) (id : Int) (h : ∀ x ∈ l, id ∉ x.f1) : cnt l id = 0 := by
  unfold cnt Sm
  induction l with
  | nil => rfl
  | cons x t ih =>
    simp only [List.map_cons, List.sum_cons]
    have h1 := ih (fun y hy => h y (List.mem_cons_of_mem _ hy))
    have h2 : List.count id x.f1 = 0 := List.count_eq_zero.2 (h x List.mem_cons_self)
    change List.count id x.f1 + _ = 0
    rw [h2, Nat.zero_add]
    exact h1
theorem MoveReaches : haulierlaw36_MoveReaches.Pure := by
  intro l want _ _ _ _
  refine Ev.rounds ?_
  unfold haulierlaw36_MoveReaches.f
  have hout : Ev (fun q => haulierlaw36_MoveReaches.j0 q l want true) true := by
    refine ev_succ ?_
    simp only [haulierlaw36_MoveReaches.j0, if_true]
    exact Ev.bind alive_f (Ev.now _)
  refine Ev.bind (light_f l 12 20 (by decide)) ?_
  cases hL : lightS l 12 20
  · simp only [Bool.false_eq_true, if_false]
    exact hout
  simp only [if_true]
  refine Ev.bind (light_f want 12 20 (by decide)) ?_
  cases hM : lightS want 12 20
  · simp only [Bool.false_eq_true, if_false]
    exact hout
  simp only [if_true]
  obtain ⟨h0, s0⟩ := light_yes hL
  obtain ⟨h1, s1⟩ := light_yes hM
  have s0' : ∀ x ∈ l, x.f1.length ≤ 20 := fun x hx => by have := s0 x hx; omega
  have s1' : ∀ x ∈ want, x.f1.length ≤ 20 := fun x hx => by have := s1 x hx; omega
  by_cases c : (l.length : Int) = (want.length : Int)
  · rw [show ((l.length : Int) != (want.length : Int)) = false from by simp [c]]
    refine ev_succ ?_
    simp only [haulierlaw36_MoveReaches.j0, Bool.false_eq_true, if_false]
    have hl : l.length = want.length := by omega
    refine check_l0 l want hl (by omega) s0' s1' (fun hall => ?_) l.length 0 (by omega) (fun j h => absurd h (Nat.not_lt_zero _))
    have hsw : ∀ a, (st (want.map tS) a).length ≤ 20 := by
      intro a
      rw [st_rd]
      by_cases ha : a < want.length
      · exact s1' _ (rd35_mem want a ha)
      · simp [rd_T35, List.getD, List.getElem?_eq_none (by omega : want.length ≤ a), z35]
    refine reach_l2 want (by omega) hsw want.length 0 l (by omega) ⟨by rw [List.length_map, List.length_map]; exact hl, fun q => ?_, fun id => ?_, fun a ha => ?_⟩
    · have e2 : ∀ m : List S35, tr (m.map tS) q = (rd_T35 m (q : Int)).f0 := by
        intro m
        unfold tr rd_T35
        by_cases hm : q < m.length
        · simp [List.getD, hm, move_Apply.tS]
        · simp [List.getD, List.getElem?_eq_none (by omega : m.length ≤ q), z35]
      rw [e2, e2]
      by_cases hq : q < l.length
      · exact (hall q hq).1
      · simp [rd_T35, List.getD, List.getElem?_eq_none (by omega : l.length ≤ q), List.getElem?_eq_none (by omega : want.length ≤ q)]
    · change cnt l id = cnt want id
      by_cases hid : ∃ j, j < l.length ∧ id ∈ (rd_T35 l (j : Int)).f1 ++ (rd_T35 want (j : Int)).f1
      · obtain ⟨j, hj, hm⟩ := hid
        exact (hall j hj).2 id hm
      · rw [cnt_zero l id, cnt_zero want id]
        · intro x hx hm
          obtain ⟨q, hq, e⟩ := List.getElem_of_mem hx
          exact hid ⟨q, by omega, List.mem_append.2 (.inr (by simp [rd_T35, hq, e, hm]))⟩
        · intro x hx hm
          obtain ⟨q, hq, e⟩ := List.getElem_of_mem hx
          exact hid ⟨q, by omega, List.mem_append.2 (.inl (by simp [rd_T35, hq, e, hm]))⟩
    · have : fr (want.map tS) 0 0 a = 0 := by
        unfold fr
        rw [if_neg (by omega)]
        split <;> rfl
      rw [this]
      exact ⟨Nat.zero_le _, Nat.zero_le _, by simp⟩
  · rw [show ((l.length : Int) != (want.length : Int)) = true from by simp only [bne_iff_ne, ne_eq]; exact c]
    exact hout


end Go.Proofs.Ytcofibbgdnbejaa.Pure
