/- Behind any move its way back is a move, behind which all routes are as they were: lemmas on routes and moves, and the pure statement of MoveBack. -/
import Derived.Test.YtcofibbgdnbejaaMMoveBackx4
import Derived.Test.YtcofibbgdnbejaaMv14
set_option linter.unusedVariables false
set_option linter.unusedSimpArgs false
namespace Go.Proofs.Ytcofibbgdnbejaa.Pure
open Go.RowKit Go.Proofs.Ytcofibbgdnbejaa.MMoveBack Go.Proofs.YtcofibbgdnbejaaW.PrintWords Go.Proofs.YtcofibbgdnbejaaW.PrintLast

theorem w64 {x : Int} (h0 : -9223372036854775808 ≤ x) (h1 : x ≤ 9223372036854775807) : wrap64 x = x := by
  unfold wrap64
  omega
theorem tmod_nn {a : Int} (h : 0 ≤ a) (b : Int) : Int.tmod a b = a % b := by
  rw [Int.tmod_eq_emod_of_nonneg h]
theorem tdiv_nn {a : Int} (h : 0 ≤ a) (b : Int) : Int.tdiv a b = a / b := by
  rw [Int.tdiv_eq_ediv_of_nonneg h]
theorem ev_succ {α : Type} {g : Nat → Option α} {r : α} (h : Ev (fun k => g (k + 1)) r) : Ev g r := by
  obtain ⟨K, h⟩ := h
  refine ⟨K + 1, fun n hn => ?_⟩
  obtain ⟨m, rfl⟩ : ∃ m, n = m + 1 := ⟨n - 1, by omega⟩
  exact h m (by omega)

def IR (x : Int) : Prop := -9223372036854775808 ≤ x ∧ x ≤ 9223372036854775807
theorem ir_of {x : Int} (h : (Lit.int .i64 x).wf = true) : IR x := by simpa [IR, Lit.wf, IntKind.min, IntKind.max, IntKind.signed, IntKind.bits] using h
theorem rd_drop (xs : List Int) (i : Nat) (h : i < xs.length) : xs.drop i = rd xs (i : Int) :: xs.drop (i + 1) := by
  rw [List.drop_eq_getElem_cons h]
  simp [rd, h]
theorem rd_mem (xs : List Int) (i : Nat) (h : i < xs.length) : rd xs (i : Int) ∈ xs := by
  simp [rd, h]

/-! routes: Light, the same routes, move.own, move.Apply, alive -/
open Go.Proofs.Ytcofibbgdnbejaa.Mv2 Go.Proofs.Ytcofibbgdnbejaa.Mv8 Go.Proofs.Ytcofibbgdnbejaa.Mv13 Go.Proofs.Ytcofibbgdnbejaa.Mv14
theorem rd35_drop (xs : List S35) (i : Nat) (h : i < xs.length) : xs.drop i = rd_T35 xs (i : Int) :: xs.drop (i + 1) := by
  rw [List.drop_eq_getElem_cons h]
  simp [rd_T35, h]
theorem rd35_mem (xs : List S35) (i : Nat) (h : i < xs.length) : rd_T35 xs (i : Int) ∈ xs := by
  simp [rd_T35, h]
theorem light_l0 (s : Int) (l : List S35) (hl : l.length ≤ 1000000) (d : Nat) : ∀ i : Nat, i + d = l.length → Ev (fun k => haulierlaw36_Light.l0 k s l (l.length : Int) (i : Int)) ((l.drop i).all fun x => decide ((x.f1.length : Int) ≤ s)) := by
  induction d with
  | zero =>
    intro i hi
    refine ev_succ ?_
    simp only [haulierlaw36_Light.l0, if_neg (show ¬ (i : Int) < (l.length : Int) by omega)]
    rw [List.drop_of_length_le (by omega)]
    exact Ev.now _
  | succ d ih =>
    intro i hi
    have h := ih (i + 1) (by omega)
    rw [show (((i + 1 : Nat) : Int)) = (i : Int) + 1 by omega] at h
    refine ev_succ ?_
    simp only [haulierlaw36_Light.l0, if_pos (show (i : Int) < (l.length : Int) by omega), if_pos (show (0 : Int) ≤ (i : Int) by omega), w64 (x := (i : Int) + 1) (by omega) (by omega)]
    rw [rd35_drop l i (by omega), List.all_cons]
    by_cases c : ((rd_T35 l (i : Int)).f1.length : Int) > s
    · simp only [if_pos c]
      rw [decide_eq_false (by omega : ¬ ((rd_T35 l (i : Int)).f1.length : Int) ≤ s)]
      exact Ev.now _
    · simp only [if_neg c]
      rw [decide_eq_true (by omega : ((rd_T35 l (i : Int)).f1.length : Int) ≤ s), Bool.true_and]
      exact h
def lightS (l : List S35) (a s : Int) : Bool := decide ((l.length : Int) ≤ a) && l.all fun x => decide ((x.f1.length : Int) ≤ s)
theorem light_f (l : List S35) (a s : Int) (ha : a ≤ 1000000) : Ev (fun k => haulierlaw36_Light.f k l a s) (lightS l a s) := by
  unfold haulierlaw36_Light.f lightS
  by_cases c : (l.length : Int) > a
  · simp only [if_pos c]
    rw [decide_eq_false (by omega : ¬ (l.length : Int) ≤ a)]
    exact Ev.now _
  · simp only [if_neg c]
    rw [decide_eq_true (by omega : (l.length : Int) ≤ a), Bool.true_and]
    exact light_l0 s l (by omega) l.length 0 (by omega)
theorem light_yes {l : List S35} {a s : Int} (h : lightS l a s = true) : (l.length : Int) ≤ a ∧ ∀ x ∈ l, (x.f1.length : Int) ≤ s := by
  unfold lightS at h
  rw [Bool.and_eq_true, List.all_eq_true] at h
  exact ⟨of_decide_eq_true h.1, fun x hx => of_decide_eq_true (h.2 x hx)⟩
theorem own_l0 (l : List S35) (hl : l.length ≤ 1000000) (hs : ∀ x ∈ l, x.f1.length ≤ 1000000) (d : Nat) : ∀ (i : Nat) (acc : List S35), i + d = l.length → acc.length = i → Ev (fun k => move_own.l0 k acc l (l.length : Int) (i : Int)) (acc ++ l.drop i) := by
  induction d with
  | zero =>
    intro i acc hi ha
    refine ev_succ ?_
    simp only [move_own.l0, if_neg (show ¬ (i : Int) < (l.length : Int) by omega)]
    rw [List.drop_of_length_le (by omega), List.append_nil]
    exact Ev.now _
  | succ d ih =>
    intro i acc hi ha
    have h := ih (i + 1) (acc ++ [rd_T35 l (i : Int)]) (by omega) (by simp; omega)
    rw [show (((i + 1 : Nat) : Int)) = (i : Int) + 1 by omega] at h
    rw [rd35_drop l i (by omega)]
    rw [List.append_assoc, List.singleton_append] at h
    refine ev_succ ?_
    have hx := hs _ (rd35_mem l i (by omega))
    simp only [move_own.l0, if_pos (show (i : Int) < (l.length : Int) by omega), if_pos (show (0 : Int) ≤ (i : Int) by omega), w64 (x := (i : Int) + 1) (by omega) (by omega), slices_Clone_int_int.f, if_pos (show (rd_T35 l (i : Int)).f1.length < 1099511627776 by omega), Option.bind_some, if_pos (show acc.length < 4398046511104 by omega)]
    exact h
theorem own_f (l : List S35) (hl : l.length ≤ 1000000) (hs : ∀ x ∈ l, x.f1.length ≤ 1000000) : Ev (fun k => move_own.f k l) l := by
  unfold move_own.f
  exact own_l0 l hl hs l.length 0 [] (by omega) rfl
abbrev tS := move_Apply.tS
abbrev tB := move_Apply.tB
theorem apply_f (l : List S35) (hl : l.length ≤ 1000000) (hs : ∀ x ∈ l, x.f1.length ≤ 1000000) (k a i b j n : Int) : Ev (fun q => move_Apply.f q l k a i b j n) (ap tB (l.map tS) k a i b j n) := by
  unfold move_Apply.f
  refine Ev.bind (own_f l hl hs) ?_
  rw [if_pos ⟨rfl, by rw [List.all_eq_true]; exact fun x hx => decide_eq_true (hs x hx)⟩]
  exact Ev.now _
theorem map_BS (l : List S35) : (l.map tS).map tB = l := by
  rw [List.map_map, show (tB ∘ tS) = id from rfl, List.map_id]
theorem map_SB (rs : List Rt) : (rs.map tB).map tS = rs := by
  rw [List.map_map, show (tS ∘ tB) = id from rfl, List.map_id]
theorem ap_cases (rs : List Rt) (k a i b j n : Int) : (ap tB rs k a i b j n = ([], false)) ∨ ((doS rs k a i b j n).1 = true ∧ ¬ rs = (doS rs k a i b j n).2 ∧ ap tB rs k a i b j n = ((doS rs k a i b j n).2.map tB, true)) := by
  unfold ap
  split
  · rename_i c
    exact .inr ⟨c.1, c.2, rfl⟩
  · exact .inl rfl
theorem same_l0 (a b : List Int) (hl : a.length = b.length) (ha : a.length ≤ 1000000) (d : Nat) : ∀ i : Nat, i + d = a.length → Ev (fun k => haulierref35_same.l0 k a b (i : Int)) (decide (a.drop i = b.drop i)) := by
  induction d with
  | zero =>
    intro i hi
    refine ev_succ ?_
    simp only [haulierref35_same.l0, if_neg (show ¬ (i : Int) < (a.length : Int) by omega)]
    rw [List.drop_of_length_le (by omega), List.drop_of_length_le (by omega)]
    exact Ev.now _
  | succ d ih =>
    intro i hi
    have h := ih (i + 1) (by omega)
    rw [show (((i + 1 : Nat) : Int)) = (i : Int) + 1 by omega] at h
    refine ev_succ ?_
    simp only [haulierref35_same.l0, if_pos (show (i : Int) < (a.length : Int) by omega), if_pos (show (i : Int) < (b.length : Int) by omega), if_pos (show (0 : Int) ≤ (i : Int) by omega), w64 (x := (i : Int) + 1) (by omega) (by omega)]
    rw [rd_drop a i (by omega), rd_drop b i (by omega)]
    by_cases c : rd a (i : Int) = rd b (i : Int)
    · simp only [if_pos c]
      rw [show decide (rd a (i : Int) :: a.drop (i + 1) = rd b (i : Int) :: b.drop (i + 1)) = decide (a.drop (i + 1) = b.drop (i + 1)) by simp [c]]
      exact h
    · simp only [if_neg c]
      rw [decide_eq_false (by simp [c])]
      exact Ev.now _
theorem same_f (a b : List Int) (ha : a.length ≤ 1000000) : Ev (fun k => haulierref35_same.f k a b) (decide (a = b)) := by
  unfold haulierref35_same.f
  by_cases c : (a.length : Int) = (b.length : Int)
  · simp only [if_pos c]
    exact same_l0 a b (by omega) ha a.length 0 (by omega)
  · simp only [if_neg c]
    rw [decide_eq_false (fun e => c (by rw [e]))]
    exact Ev.now _
theorem s35_ext (x y : S35) : x = y ↔ x.f0 = y.f0 ∧ x.f1 = y.f1 := by
  cases x
  cases y
  simp
theorem alike_l0 (a b : List S35) (hl : a.length = b.length) (ha : a.length ≤ 1000000) (hs : ∀ x ∈ a, x.f1.length ≤ 1000000) (d : Nat) : ∀ i : Nat, i + d = a.length → ∃ r, Ev (fun k => haulierref35_Alike.l0 k a b (i : Int)) r ∧ (r = true ↔ a.drop i = b.drop i) := by
  induction d with
  | zero =>
    intro i hi
    refine ⟨true, ev_succ ?_, ?_⟩
    · simp only [haulierref35_Alike.l0, if_neg (show ¬ (i : Int) < (a.length : Int) by omega)]
      exact Ev.now _
    · rw [List.drop_of_length_le (by omega), List.drop_of_length_le (by omega)]
      simp
  | succ d ih =>
    intro i hi
    obtain ⟨r, h, hr⟩ := ih (i + 1) (by omega)
    rw [show (((i + 1 : Nat) : Int)) = (i : Int) + 1 by omega] at h
    rw [rd35_drop a i (by omega), rd35_drop b i (by omega)]
    by_cases c : (rd_T35 a (i : Int)).f0 = (rd_T35 b (i : Int)).f0
    · by_cases c2 : (rd_T35 a (i : Int)).f1 = (rd_T35 b (i : Int)).f1
      · refine ⟨r, ev_succ ?_, ?_⟩
        · simp only [haulierref35_Alike.l0, if_pos (show (i : Int) < (a.length : Int) by omega), if_pos (show (i : Int) < (b.length : Int) by omega), if_pos (show (0 : Int) ≤ (i : Int) by omega), w64 (x := (i : Int) + 1) (by omega) (by omega), if_pos c]
          refine Ev.bind (same_f _ _ (hs _ (rd35_mem a i (by omega)))) ?_
          simp only [decide_eq_true c2, if_true]
          exact h
        · rw [hr, List.cons.injEq, s35_ext]
          simp [c, c2]
      · refine ⟨false, ev_succ ?_, ?_⟩
        · simp only [haulierref35_Alike.l0, if_pos (show (i : Int) < (a.length : Int) by omega), if_pos (show (i : Int) < (b.length : Int) by omega), if_pos (show (0 : Int) ≤ (i : Int) by omega), w64 (x := (i : Int) + 1) (by omega) (by omega), if_pos c]
          refine Ev.bind (same_f _ _ (hs _ (rd35_mem a i (by omega)))) ?_
          simp only [decide_eq_false c2, Bool.false_eq_true, if_false]
          exact Ev.now _
        · rw [List.cons.injEq, s35_ext]
          simp [c2]
    · refine ⟨false, ev_succ ?_, ?_⟩
      · simp only [haulierref35_Alike.l0, if_pos (show (i : Int) < (a.length : Int) by omega), if_pos (show (i : Int) < (b.length : Int) by omega), if_pos (show (0 : Int) ≤ (i : Int) by omega), if_neg c]
        exact Ev.now _
      · rw [List.cons.injEq, s35_ext]
        simp [c]
theorem alike_f (a b : List S35) (ha : a.length ≤ 1000000) (hs : ∀ x ∈ a, x.f1.length ≤ 1000000) : ∃ r, Ev (fun k => haulierref35_Alike.f k a b) r ∧ (r = true ↔ a = b) := by
  unfold haulierref35_Alike.f
  by_cases c : (a.length : Int) = (b.length : Int)
  · simp only [if_pos c]
    exact alike_l0 a b (by omega) ha hs a.length 0 (by omega)
  · simp only [if_neg c]
    exact ⟨false, Ev.now _, by simp; exact fun e => c (by rw [e])⟩
theorem alike_yes (a : List S35) (ha : a.length ≤ 1000000) (hs : ∀ x ∈ a, x.f1.length ≤ 1000000) : Ev (fun k => haulierref35_Alike.f k a a) true := by
  obtain ⟨r, h, hr⟩ := alike_f a a ha hs
  rw [hr.2 rfl] at h
  exact h
theorem alive_f : Ev (fun k => haulierlaw36_alive.f k) true := by
  unfold haulierlaw36_alive.f
  refine Ev.bind (apply_f _ (by simp) (by simp) 4 0 1 1 2 0) ?_
  rw [show ap tB ([(⟨1, [1, 2, 3]⟩ : S35), (⟨2, [4, 5]⟩ : S35)].map tS) 4 0 1 1 2 0 = ([(⟨1, [1]⟩ : S35), (⟨2, [4, 5, 2, 3]⟩ : S35)], true) from rfl]
  simp only [if_true]
  refine Ev.bind (alike_yes _ (by simp) (by simp)) ?_
  simp only [if_true]
  exact Ev.now _

theorem ap_bounds {l : List S35} (hl : l.length ≤ 20) (hs : ∀ x ∈ l, x.f1.length ≤ 60) {k a i b j n : Int} (h : (doS (l.map tS) k a i b j n).1 = true) : ((doS (l.map tS) k a i b j n).2.map tB).length = l.length ∧ ∀ x ∈ (doS (l.map tS) k a i b j n).2.map tB, x.f1.length ≤ 1200 := by
  have e := doS_len (l.map tS) k a i b j n
  rw [List.length_map] at e
  refine ⟨by rw [List.length_map, e], fun x hx => ?_⟩
  have hsum := do_sum adds_length (l.map tS) k a i b j n h
  have hb : ∀ m : List S35, m.length ≤ 20 → (∀ x ∈ m, x.f1.length ≤ 60) → Sm (fun l => l.length) (m.map tS) ≤ 60 * m.length := by
    intro m
    induction m with
    | nil => intro _ _; simp [Sm]
    | cons y t ih =>
      intro h1 h2
      have := ih (by simp at h1; omega) (fun x hx => h2 x (List.mem_cons_of_mem _ hx))
      have h3 := h2 y List.mem_cons_self
      simp only [Sm, List.map_cons, List.sum_cons, List.length_cons] at this ⊢
      change y.f1.length + _ ≤ _
      omega
  have hb1 := hb l hl hs
  obtain ⟨p, hp, rfl⟩ := List.mem_map.1 hx
  obtain ⟨q, hq, e2⟩ := List.getElem_of_mem hp
  have := Sm_le (fun l => l.length) (doS (l.map tS) k a i b j n).2 q hq
  have e3 : st (doS (l.map tS) k a i b j n).2 q = p.2 := by
    unfold st
    simp [hq, e2]
  rw [e3, hsum] at this
  change p.2.length ≤ 1200
  omega
theorem back_j1 (l : List S35) (hl : l.length ≤ 20) (hs : ∀ x ∈ l, x.f1.length ≤ 60) (k a i b j n k' a' i' b' j' n' : Int) (hb : (doS (l.map tS) k a i b j n).1 = true → doS (doS (l.map tS) k a i b j n).2 k' a' i' b' j' n' = (true, l.map tS)) : Ev (fun q => haulierlaw36_MoveBack.j1 q l k a i b j n k' a' i' b' j' n' k' a' i' b' j' n') true := by
  refine ev_succ ?_
  simp only [haulierlaw36_MoveBack.j1, beq_self_eq_true, Bool.and_self, if_true]
  refine Ev.bind (apply_f l (by omega) (fun x hx => by have := hs x hx; omega) k a i b j n) ?_
  rcases ap_cases (l.map tS) k a i b j n with e | ⟨h1, h2, e⟩
  · rw [e]
    simp only [Bool.false_eq_true, if_false, List.length_nil, Int.natCast_zero, if_true]
    exact Ev.bind alive_f (Ev.now _)
  · rw [e]
    simp only [if_true]
    obtain ⟨g1, g2⟩ := ap_bounds hl hs h1
    refine Ev.bind (apply_f _ (by omega) (fun x hx => by have := g2 x hx; omega) k' a' i' b' j' n') ?_
    have e2 : ap tB (((doS (l.map tS) k a i b j n).2.map tB).map tS) k' a' i' b' j' n' = (l, true) := by
      rw [map_SB]
      unfold ap
      rw [hb h1, if_pos ⟨rfl, fun e => h2 e.symm⟩, map_BS]
    rw [e2]
    simp only [if_true]
    rw [show move_Same.f l l = some true from by unfold move_Same.f; simp]
    rw [show move_Same.f l ((doS (l.map tS) k a i b j n).2.map tB) = some false from by
      unfold move_Same.f
      rw [decide_eq_false]
      intro e3
      refine h2 ?_
      have := e3.trans (map_SB (doS (l.map tS) k a i b j n).2)
      exact this]
    simp only [Option.bind_some, if_true, Bool.false_eq_true, if_false]
    exact Ev.bind alive_f (Ev.now _)
theorem MoveBack : haulierlaw36_MoveBack.Pure := by
  intro l k a i b j n _ _ _ _ _ _ _ _
  refine Ev.rounds ?_
  unfold haulierlaw36_MoveBack.f
  refine Ev.bind (light_f l 20 60 (by decide)) ?_
  cases hL : lightS l 20 60
  · simp only [Bool.false_eq_true, if_false]
    exact Ev.bind alive_f (Ev.now _)
  · obtain ⟨hl, hs⟩ := light_yes hL
    simp only [if_true]
    have hb := do_back (l.map tS) k a i b j n
    have hl' : l.length ≤ 20 := by omega
    have hs' : ∀ x ∈ l, x.f1.length ≤ 60 := fun x hx => by have := hs x hx; omega
    by_cases k1 : k = 1
    · simp only [move_Back.f, if_pos k1, Option.bind_some]
      refine ev_succ ?_
      simp only [haulierlaw36_MoveBack.j0, if_true]
      exact back_j1 l hl' hs' k a i b j n k b j a i n (fun h => (hb h).1 (.inl k1))
    · simp only [move_Back.f, if_neg k1]
      by_cases k3 : k = 3
      · simp only [if_pos k3, Option.bind_some]
        refine ev_succ ?_
        simp only [haulierlaw36_MoveBack.j0, beq_iff_eq.mpr k3, if_true]
        exact back_j1 l hl' hs' k a i b j n k b j a i n (fun h => (hb h).1 (.inr k3))
      · simp only [if_neg k3, Option.bind_some]
        refine ev_succ ?_
        simp only [haulierlaw36_MoveBack.j0, beq_eq_false_iff_ne.mpr k3, Bool.false_eq_true, if_false]
        exact back_j1 l hl' hs' k a i b j n k a i b j n (fun h => (hb h).2 (by omega))


end Go.Proofs.Ytcofibbgdnbejaa.Pure
