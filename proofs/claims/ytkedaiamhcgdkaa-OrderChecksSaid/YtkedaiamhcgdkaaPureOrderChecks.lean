/- Whether any order may be, and whether two orders are the same, is what the reference says: lemmas on Check, Same and the pure statement of OrderChecks. -/
import Derived.Test.YtkedaiamhcgdkaaMOrderChecksx10
set_option linter.unusedVariables false
set_option linter.unusedSimpArgs false
namespace Go.Proofs.Ytkedaiamhcgdkaa.Pure
open Go.RowKit Go.Proofs.Ytkedaiamhcgdkaa.MOrderChecks Go.Proofs.YtkedaiamhcgdkaaW.PrintWords Go.Proofs.YtkedaiamhcgdkaaW.PrintLast

theorem w64 {x : Int} (h0 : -9223372036854775808 ≤ x) (h1 : x ≤ 9223372036854775807) : wrap64 x = x := by
  unfold wrap64
  omega
theorem tmod_nn {a : Int} (h : 0 ≤ a) (b : Int) : Int.tmod a b = a % b := by
  rw [Int.tmod_eq_emod_of_nonneg h]
theorem tdiv_nn {a : Int} (h : 0 ≤ a) (b : Int) : Int.tdiv a b = a / b := by
  rw [Int.tdiv_eq_ediv_of_nonneg h]
theorem ev_succ {α : Type} {g : Nat → Option α} {r : α} (h : Ev (fun k => g (k + 1)) r) : Ev g r := by
  obtain ⟨K, h⟩ := h
  refine ⟨K + 1, fun n hn => ?_⟩
  obtain ⟨m, rfl⟩ : ∃ m, n = m + 1 := ⟨n - 1, by omega⟩
  exact h m (by omega)

theorem rdO_drop (xs : List S25) (i : Nat) (h : i < xs.length) : xs.drop i = rd_T25 xs (i : Int) :: xs.drop (i + 1) := by
  rw [List.drop_eq_getElem_cons h]
  simp [rd_T25, h]
theorem rdP_drop (xs : List S50) (i : Nat) (h : i < xs.length) : xs.drop i = rd_T50 xs (i : Int) :: xs.drop (i + 1) := by
  rw [List.drop_eq_getElem_cons h]
  simp [rd_T50, h]
/-- Every order has few spans. -/
def Few (l : List S25) : Prop := ∀ x ∈ l, x.f4.length ≤ 20
def lgtS : List S25 → Bool
  | [] => true
  | x :: t => if 20 < x.f4.length then false else lgtS t
theorem lgtS_few (l : List S25) (h : lgtS l = true) : Few l := by
  induction l with
  | nil => intro x hx; simp at hx
  | cons y t ih =>
    rw [lgtS] at h
    by_cases c : 20 < y.f4.length
    · rw [if_pos c] at h
      simp at h
    · rw [if_neg c] at h
      intro x hx
      rcases List.mem_cons.1 hx with rfl | hx
      · omega
      · exact ih h x hx
theorem light_l0 (l : List S25) (hl : l.length ≤ 1000000) (d : Nat) : ∀ i : Nat, i + d = l.length → Ev (fun k => haulierlaw28_Light.l0 k l (l.length : Int) (i : Int)) (lgtS (l.drop i)) := by
  induction d with
  | zero =>
    intro i hi
    rw [List.drop_of_length_le (by omega)]
    refine ev_succ ?_
    simp only [haulierlaw28_Light.l0, if_neg (show ¬ (i : Int) < (l.length : Int) by omega)]
    exact Ev.now _
  | succ d ih =>
    intro i hi
    have h := ih (i + 1) (by omega)
    rw [show (((i + 1 : Nat) : Int)) = (i : Int) + 1 by omega] at h
    rw [rdO_drop l i (by omega), lgtS]
    refine ev_succ ?_
    simp only [haulierlaw28_Light.l0, if_pos (show (i : Int) < (l.length : Int) by omega), if_pos (show (0 : Int) ≤ (i : Int) by omega), w64 (x := (i : Int) + 1) (by omega) (by omega)]
    by_cases c : 20 < (rd_T25 l (i : Int)).f4.length
    · simp only [if_pos c, if_pos (show ((rd_T25 l (i : Int)).f4.length : Int) > 20 by omega)]
      exact Ev.now _
    · simp only [if_neg c, if_neg (show ¬ ((rd_T25 l (i : Int)).f4.length : Int) > 20 by omega)]
      exact h
def lightS (l : List S25) : Bool := if l.length > 2010 then false else lgtS l
theorem light_f (l : List S25) : Ev (fun k => haulierlaw28_Light.f k l) (lightS l) := by
  unfold haulierlaw28_Light.f lightS
  by_cases c : l.length > 2010
  · simp only [if_pos c, if_pos (show (l.length : Int) > 2010 by omega)]
    exact Ev.now _
  · simp only [if_neg c, if_neg (show ¬ (l.length : Int) > 2010 by omega)]
    exact light_l0 l (by omega) l.length 0 (by omega)
/-! which one has an ID -/
def atS (l : List S25) (id : Int) : Int := order_at.ixF (fun x => decide (x.f0 = id)) l 0
theorem at_f (l : List S25) (id : Int) : order_at.f l id = some (atS l id) := rfl
theorem at_bound (p : S25 → Bool) (l : List S25) : ∀ i : Int, order_at.ixF p l i = -1 ∨ (i ≤ order_at.ixF p l i ∧ order_at.ixF p l i < i + l.length) := by
  induction l with
  | nil => intro i; exact .inl rfl
  | cons x t ih =>
    intro i
    rw [order_at.ixF]
    by_cases h : p x = true
    · rw [if_pos h]
      simp only [List.length_cons]
      omega
    · rw [if_neg h]
      have := ih (i + 1)
      simp only [List.length_cons]
      omega

theorem few_drop {l : List S25} (h : Few l) (i : Nat) : Few (l.drop i) := fun x hx => h x (List.mem_of_mem_drop hx)
theorem few_rd {l : List S25} (h : Few l) (i : Nat) (hi : i < l.length) : (rd_T25 l (i : Int)).f4.length ≤ 20 := by
  refine h _ ?_
  have := List.mem_of_mem_drop (l := l) (i := i) (a := rd_T25 l (i : Int)) (by rw [rdO_drop l i hi]; exact List.mem_cons_self)
  exact this

/-! windows -/
def rgS : List S50 → Option Int → Bool
  | [], _ => true
  | x :: t, p => if ¬ x.f0 < x.f1 then false else if (∃ e, p = some e ∧ x.f0 ≤ e) then false else rgS t (some x.f1)
def prevP (l : List S50) (i : Nat) : Option Int := if i = 0 then none else some (rd_T50 l ((i - 1 : Nat) : Int)).f1
theorem ivr_l0 (l : List S50) (hl : l.length ≤ 1000000) (d : Nat) : ∀ i : Nat, i + d = l.length → Ev (fun k => ivals_Right.l0 k l l (l.length : Int) (i : Int)) (rgS (l.drop i) (prevP l i)) := by
  induction d with
  | zero =>
    intro i hi
    rw [List.drop_of_length_le (by omega), rgS]
    refine ev_succ ?_
    simp only [ivals_Right.l0, if_neg (show ¬ (i : Int) < (l.length : Int) by omega)]
    exact Ev.now _
  | succ d ih =>
    intro i hi
    have h := ih (i + 1) (by omega)
    rw [show (((i + 1 : Nat) : Int)) = (i : Int) + 1 by omega, show prevP l (i + 1) = some (rd_T50 l (i : Int)).f1 by simp [prevP]] at h
    rw [rdP_drop l i (by omega), rgS]
    refine ev_succ ?_
    simp only [ivals_Right.l0, ival_Right.f, Option.bind_some, if_pos (show (i : Int) < (l.length : Int) by omega), if_pos (show (0 : Int) ≤ (i : Int) by omega), w64 (x := (i : Int) + 1) (by omega) (by omega), w64 (x := (i : Int) - 1) (by omega) (by omega), decide_eq_true_eq]
    by_cases c : (rd_T50 l (i : Int)).f0 < (rd_T50 l (i : Int)).f1
    · simp only [if_pos c, if_neg (show ¬ ¬ (rd_T50 l (i : Int)).f0 < (rd_T50 l (i : Int)).f1 from fun h => h c)]
      by_cases c0 : i = 0
      · subst c0
        simp only [if_neg (show ¬ ((0 : Nat) : Int) > 0 by omega), prevP, if_true, reduceCtorEq, false_and, exists_false, if_false]
        exact h
      · simp only [if_pos (show (i : Int) > 0 by omega), if_pos (show (0 : Int) ≤ ((i - 1 : Nat) : Int) by omega), if_pos (show ((i - 1 : Nat) : Int) < (l.length : Int) by omega), prevP, if_neg c0, Option.some.injEq, exists_eq_left', show (i : Int) - 1 = ((i - 1 : Nat) : Int) by omega]
        by_cases c1 : (rd_T50 l (i : Int)).f0 ≤ (rd_T50 l ((i - 1 : Nat) : Int)).f1
        · simp only [if_pos c1]
          exact Ev.now _
        · simp only [if_neg c1]
          exact h
    · simp only [if_neg c, if_pos (show ¬ (rd_T50 l (i : Int)).f0 < (rd_T50 l (i : Int)).f1 from c)]
      exact Ev.now _
theorem ivr_f (l : List S50) (hl : l.length ≤ 1000000) : Ev (fun k => ivals_Right.f k l) (rgS l none) := ivr_l0 l hl l.length 0 (by omega)
def winS (l : List S50) : Int := if l.length = 0 then 13 else if 8 < l.length then 12 else if l.any window_Check.p1 = true then 3 else if l.any window_Check.p2 = true then 4 else if rgS l none = true then 0 else 6
theorem win_f (l : List S50) : Ev (fun k => window_Check.f k l) (winS l) := by
  unfold window_Check.f winS
  by_cases c0 : l.length = 0
  · simp only [if_pos c0]
    exact Ev.now _
  simp only [if_neg c0]
  by_cases c1 : 8 < l.length
  · simp only [if_pos c1]
    exact Ev.now _
  simp only [if_neg c1]
  by_cases c2 : l.any window_Check.p1 = true
  · simp only [if_pos c2]
    exact Ev.now _
  simp only [if_neg c2]
  by_cases c3 : l.any window_Check.p2 = true
  · simp only [if_pos c3]
    exact Ev.now _
  simp only [if_neg c3]
  exact Ev.bind (ivr_f l (by omega)) (Ev.now _)
/-! an order -/
def chkS (x : S25) (p : Int) : Int := if ¬ (1 ≤ x.f0 ∧ x.f0 ≤ 999999) then 1 else if x.f1 < 0 ∨ p ≤ x.f1 then 10 else if ¬ ((-1000000 ≤ x.f2 ∧ x.f2 ≤ 1000000) ∧ (1 ≤ x.f3 ∧ x.f3 ≤ 1440)) then 4 else winS x.f4
theorem within_f (a b c : Int) : order_within.f a b c = some (decide (b ≤ a ∧ a ≤ c)) := by
  unfold order_within.f
  by_cases h : b ≤ a
  · rw [if_pos (show a ≥ b from h)]
    simp [h]
  · rw [if_neg (show ¬ a ≥ b from h)]
    simp [h]
theorem chk_j0 (x : S25) (p : Int) (b : Bool) (hb : b = true ↔ (x.f1 < 0 ∨ p ≤ x.f1)) (h0 : 1 ≤ x.f0 ∧ x.f0 ≤ 999999) : Ev (fun k => order_Check.j0 k b x.f0 x.f1 x.f2 x.f3 x.f4) (chkS x p) := by
  refine ev_succ ?_
  simp only [order_Check.j0, within_f, Option.bind_some, decide_eq_true_eq, chkS, if_neg (show ¬ ¬ (1 ≤ x.f0 ∧ x.f0 ≤ 999999) from fun h => h h0)]
  by_cases c : x.f1 < 0 ∨ p ≤ x.f1
  · simp only [if_pos c, if_pos (hb.2 c)]
    exact Ev.now _
  simp only [if_neg c, if_neg (show ¬ b = true from fun h => c (hb.1 h))]
  by_cases c2 : -1000000 ≤ x.f2 ∧ x.f2 ≤ 1000000
  · simp only [if_pos c2]
    by_cases c3 : 1 ≤ x.f3 ∧ x.f3 ≤ 1440
    · simp only [if_pos c3, if_neg (show ¬ ¬ ((-1000000 ≤ x.f2 ∧ x.f2 ≤ 1000000) ∧ (1 ≤ x.f3 ∧ x.f3 ≤ 1440)) from fun h => h ⟨c2, c3⟩)]
      exact Ev.bind (win_f x.f4) (Ev.now _)
    · simp only [if_neg c3, if_pos (show ¬ ((-1000000 ≤ x.f2 ∧ x.f2 ≤ 1000000) ∧ (1 ≤ x.f3 ∧ x.f3 ≤ 1440)) from fun h => c3 h.2)]
      exact Ev.now _
  · simp only [if_neg c2, if_pos (show ¬ ((-1000000 ≤ x.f2 ∧ x.f2 ≤ 1000000) ∧ (1 ≤ x.f3 ∧ x.f3 ≤ 1440)) from fun h => c2 h.1)]
    exact Ev.now _
theorem chk_f (x : S25) (p : Int) : Ev (fun k => order_Check.f k x.f0 x.f1 x.f2 x.f3 x.f4 p) (chkS x p) := by
  unfold order_Check.f
  simp only [within_f, Option.bind_some, decide_eq_true_eq]
  by_cases h0 : 1 ≤ x.f0 ∧ x.f0 ≤ 999999
  · simp only [if_pos h0]
    by_cases c : x.f1 < 0
    · simp only [if_pos c]
      exact chk_j0 x p true (by simp [c]) h0
    · simp only [if_neg c]
      exact chk_j0 x p _ (by simp [c]) h0
  · simp only [if_neg h0, chkS, if_pos (show ¬ (1 ≤ x.f0 ∧ x.f0 ≤ 999999) from h0)]
    exact Ev.now _

theorem oalive_f : haulierlaw28_alive.f = some true := by decide

/-! the reference's windows, order, orders -/
theorem r03_l0 (l : List S50) (hl : l.length ≤ 1000000) (d : Nat) : ∀ i : Nat, i + d = l.length → Ev (fun k => haulierref03_Right.l0 k l (i : Int)) (rgS (l.drop i) (prevP l i)) := by
  induction d with
  | zero =>
    intro i hi
    rw [List.drop_of_length_le (by omega), rgS]
    refine ev_succ ?_
    simp only [haulierref03_Right.l0, if_neg (show ¬ (i : Int) < (l.length : Int) by omega)]
    exact Ev.now _
  | succ d ih =>
    intro i hi
    have h := ih (i + 1) (by omega)
    rw [show (((i + 1 : Nat) : Int)) = (i : Int) + 1 by omega, show prevP l (i + 1) = some (rd_T50 l (i : Int)).f1 by simp [prevP]] at h
    rw [rdP_drop l i (by omega), rgS]
    refine ev_succ ?_
    simp only [haulierref03_Right.l0, haulierref02_Right.f, Option.bind_some, if_pos (show (i : Int) < (l.length : Int) by omega), if_pos (show (0 : Int) ≤ (i : Int) by omega), w64 (x := (i : Int) + 1) (by omega) (by omega), w64 (x := (i : Int) - 1) (by omega) (by omega), decide_eq_true_eq]
    by_cases c : (rd_T50 l (i : Int)).f0 < (rd_T50 l (i : Int)).f1
    · simp only [if_pos c, if_neg (show ¬ ¬ (rd_T50 l (i : Int)).f0 < (rd_T50 l (i : Int)).f1 from fun h => h c)]
      by_cases c0 : i = 0
      · subst c0
        simp only [if_neg (show ¬ ((0 : Nat) : Int) > 0 by omega), prevP, if_true, reduceCtorEq, false_and, exists_false, if_false]
        exact h
      · simp only [if_pos (show (i : Int) > 0 by omega), if_pos (show (0 : Int) ≤ ((i - 1 : Nat) : Int) by omega), if_pos (show ((i - 1 : Nat) : Int) < (l.length : Int) by omega), prevP, if_neg c0, Option.some.injEq, exists_eq_left', show (i : Int) - 1 = ((i - 1 : Nat) : Int) by omega]
        by_cases c1 : (rd_T50 l (i : Int)).f0 ≤ (rd_T50 l ((i - 1 : Nat) : Int)).f1
        · simp only [if_pos c1, if_pos (show (rd_T50 l ((i - 1 : Nat) : Int)).f1 ≥ (rd_T50 l (i : Int)).f0 from c1)]
          exact Ev.now _
        · simp only [if_neg c1, if_neg (show ¬ (rd_T50 l ((i - 1 : Nat) : Int)).f1 ≥ (rd_T50 l (i : Int)).f0 from c1)]
          exact h
    · simp only [if_neg c, if_pos (show ¬ (rd_T50 l (i : Int)).f0 < (rd_T50 l (i : Int)).f1 from c)]
      exact Ev.now _
theorem r03_f (l : List S50) (hl : l.length ≤ 1000000) : Ev (fun k => haulierref03_Right.f k l) (rgS l none) := r03_l0 l hl l.length 0 (by omega)
theorem r18_l1 (l : List S50) (hl : l.length ≤ 1000000) (d : Nat) : ∀ i : Nat, i + d = l.length → Ev (fun k => haulierref18_Check.l1 k l (i : Int)) (if (l.drop i).any window_Check.p2 = true then 4 else if rgS l none = true then 0 else 6) := by
  induction d with
  | zero =>
    intro i hi
    rw [List.drop_of_length_le (by omega)]
    simp only [List.any_nil, Bool.false_eq_true, if_false]
    refine ev_succ ?_
    simp only [haulierref18_Check.l1, if_neg (show ¬ (i : Int) < (l.length : Int) by omega)]
    refine Ev.bind (r03_f l hl) ?_
    cases rgS l none
    · exact Ev.now _
    · exact Ev.now _
  | succ d ih =>
    intro i hi
    have h := ih (i + 1) (by omega)
    rw [show (((i + 1 : Nat) : Int)) = (i : Int) + 1 by omega] at h
    rw [rdP_drop l i (by omega)]
    refine ev_succ ?_
    simp only [haulierref18_Check.l1, if_pos (show (i : Int) < (l.length : Int) by omega), if_pos (show (0 : Int) ≤ (i : Int) by omega), w64 (x := (i : Int) + 1) (by omega) (by omega), List.any_cons, window_Check.p2, Bool.or_eq_true, decide_eq_true_eq]
    by_cases c : (rd_T50 l (i : Int)).f0 < 0
    · simp only [c, true_or, if_true]
      exact Ev.now _
    by_cases c2 : 40320 < (rd_T50 l (i : Int)).f1
    · simp only [c, c2, or_true, true_or, if_true, if_false, if_pos (show (rd_T50 l (i : Int)).f1 > 40320 from c2)]
      exact Ev.now _
    simp only [c, c2, false_or, if_false, if_neg (show ¬ (rd_T50 l (i : Int)).f1 > 40320 from c2)]
    exact h
theorem r18_l0 (l : List S50) (hl : l.length ≤ 1000000) (d : Nat) : ∀ i : Nat, i + d = l.length → Ev (fun k => haulierref18_Check.l0 k l (i : Int)) (if (l.drop i).any window_Check.p1 = true then 3 else if l.any window_Check.p2 = true then 4 else if rgS l none = true then 0 else 6) := by
  induction d with
  | zero =>
    intro i hi
    rw [List.drop_of_length_le (by omega)]
    simp only [List.any_nil, Bool.false_eq_true, if_false]
    refine ev_succ ?_
    simp only [haulierref18_Check.l0, if_neg (show ¬ (i : Int) < (l.length : Int) by omega)]
    exact r18_l1 l hl l.length 0 (by omega)
  | succ d ih =>
    intro i hi
    have h := ih (i + 1) (by omega)
    rw [show (((i + 1 : Nat) : Int)) = (i : Int) + 1 by omega] at h
    rw [rdP_drop l i (by omega)]
    refine ev_succ ?_
    simp only [haulierref18_Check.l0, haulierref02_Right.f, Option.bind_some, if_pos (show (i : Int) < (l.length : Int) by omega), if_pos (show (0 : Int) ≤ (i : Int) by omega), w64 (x := (i : Int) + 1) (by omega) (by omega), List.any_cons, window_Check.p1, Bool.or_eq_true, decide_eq_true_eq, Bool.not_eq_true', decide_eq_false_iff_not]
    by_cases c : (rd_T50 l (i : Int)).f0 < (rd_T50 l (i : Int)).f1
    · simp only [c, not_true, false_or, if_true]
      exact h
    · simp only [c, not_false_eq_true, true_or, if_true, if_false]
      exact Ev.now _
theorem r18_f (l : List S50) : Ev (fun k => haulierref18_Check.f k l) (winS l) := by
  unfold haulierref18_Check.f winS
  by_cases c0 : l.length = 0
  · simp only [if_pos c0, if_pos (show (l.length : Int) = 0 by omega)]
    exact Ev.now _
  simp only [if_neg c0, if_neg (show ¬ (l.length : Int) = 0 by omega)]
  by_cases c1 : 8 < l.length
  · simp only [if_pos c1, if_pos (show (l.length : Int) > 8 by omega)]
    exact Ev.now _
  simp only [if_neg c1, if_neg (show ¬ (l.length : Int) > 8 by omega)]
  exact r18_l0 l (by omega) l.length 0 (by omega)
theorem rchk_j1 (x : S25) (p : Int) (b : Bool) (hb : b = true ↔ (x.f1 < 0 ∨ p ≤ x.f1)) (h0 : 1 ≤ x.f0 ∧ x.f0 ≤ 999999) : Ev (fun k => haulierref28_Check.j1 k b x.f0 x.f1 x.f2 x.f3 x.f4) (chkS x p) := by
  refine ev_succ ?_
  simp only [haulierref28_Check.j1, chkS, if_neg (show ¬ ¬ (1 ≤ x.f0 ∧ x.f0 ≤ 999999) from fun h => h h0)]
  by_cases c : x.f1 < 0 ∨ p ≤ x.f1
  · simp only [if_pos c, if_pos (hb.2 c)]
    exact Ev.now _
  simp only [if_neg c, if_neg (show ¬ b = true from fun h => c (hb.1 h))]
  by_cases c2 : (-1000000 ≤ x.f2 ∧ x.f2 ≤ 1000000) ∧ (1 ≤ x.f3 ∧ x.f3 ≤ 1440)
  · simp only [if_neg (show ¬ ¬ ((-1000000 ≤ x.f2 ∧ x.f2 ≤ 1000000) ∧ (1 ≤ x.f3 ∧ x.f3 ≤ 1440)) from fun h => h c2), if_neg (show ¬ x.f2 < -1000000 by omega), if_neg (show ¬ x.f2 > 1000000 by omega), if_neg (show ¬ x.f3 < 1 by omega), if_neg (show ¬ x.f3 > 1440 by omega)]
    exact Ev.bind (r18_f x.f4) (Ev.now _)
  · simp only [if_pos (show ¬ ((-1000000 ≤ x.f2 ∧ x.f2 ≤ 1000000) ∧ (1 ≤ x.f3 ∧ x.f3 ≤ 1440)) from c2)]
    by_cases d1 : x.f2 < -1000000
    · simp only [if_pos d1]
      exact Ev.now _
    by_cases d2 : x.f2 > 1000000
    · simp only [if_neg d1, if_pos d2]
      exact Ev.now _
    by_cases d3 : x.f3 < 1
    · simp only [if_neg d1, if_neg d2, if_pos d3]
      exact Ev.now _
    simp only [if_neg d1, if_neg d2, if_neg d3, if_pos (show x.f3 > 1440 by omega)]
    exact Ev.now _
theorem rchk_j0 (x : S25) (p : Int) (b : Bool) (hb : b = true ↔ ¬ (1 ≤ x.f0 ∧ x.f0 ≤ 999999)) : Ev (fun k => haulierref28_Check.j0 k p b x.f0 x.f1 x.f2 x.f3 x.f4) (chkS x p) := by
  refine ev_succ ?_
  simp only [haulierref28_Check.j0]
  by_cases h0 : 1 ≤ x.f0 ∧ x.f0 ≤ 999999
  · simp only [if_neg (show ¬ b = true from fun h => (hb.1 h) h0)]
    by_cases c : x.f1 < 0
    · simp only [if_pos c]
      exact rchk_j1 x p true (by simp [c]) h0
    · simp only [if_neg c]
      exact rchk_j1 x p _ (by simp [c]) h0
  · simp only [if_pos (hb.2 h0), chkS, if_pos (show ¬ (1 ≤ x.f0 ∧ x.f0 ≤ 999999) from h0)]
    exact Ev.now _
theorem rchk_f (x : S25) (p : Int) : Ev (fun k => haulierref28_Check.f k x.f0 x.f1 x.f2 x.f3 x.f4 p) (chkS x p) := by
  unfold haulierref28_Check.f
  by_cases c : x.f0 < 1
  · simp only [if_pos c]
    exact rchk_j0 x p true (by simp; omega)
  · simp only [if_neg c]
    exact rchk_j0 x p _ (by simp; omega)

/-! two orders: both answers -/
def sm7 : List S50 → List S50 → Bool
  | x :: s, y :: t => if (!(x.f0 == y.f0) || (!(x.f1 == y.f1))) = true then false else sm7 s t
  | _, _ => true
def same7 (x y : S25) : Bool := decide (x.f0 = y.f0 ∧ x.f1 = y.f1 ∧ x.f2 = y.f2 ∧ x.f3 = y.f3 ∧ x.f4.length = y.f4.length) && sm7 x.f4 y.f4
theorem os7_l0 (x y : S25) (hx : x.f4.length ≤ 1000000) (hxy : x.f4.length = y.f4.length) (d : Nat) : ∀ i : Nat, i + d = x.f4.length → Ev (fun k => order_Same.l0 k (x.f4.length : Int) (i : Int) x.f0 x.f1 x.f2 x.f3 x.f4 y.f0 y.f1 y.f2 y.f3 y.f4) (sm7 (x.f4.drop i) (y.f4.drop i)) := by
  induction d with
  | zero =>
    intro i hi
    rw [List.drop_of_length_le (by omega)]
    refine ev_succ ?_
    simp only [order_Same.l0, if_neg (show ¬ (i : Int) < (x.f4.length : Int) by omega), sm7]
    exact Ev.now _
  | succ d ih =>
    intro i hi
    have h := ih (i + 1) (by omega)
    rw [show (((i + 1 : Nat) : Int)) = (i : Int) + 1 by omega] at h
    rw [rdP_drop x.f4 i (by omega), rdP_drop y.f4 i (by omega), sm7]
    refine ev_succ ?_
    simp only [order_Same.l0, if_pos (show (i : Int) < (x.f4.length : Int) by omega), if_pos (show (i : Int) < (y.f4.length : Int) by omega), if_pos (show (0 : Int) ≤ (i : Int) by omega), w64 (x := (i : Int) + 1) (by omega) (by omega)]
    split
    · exact Ev.now _
    · exact h
theorem os7_f (x y : S25) (hx : x.f4.length ≤ 1000000) : Ev (fun k => order_Same.f k x.f0 x.f1 x.f2 x.f3 x.f4 y.f0 y.f1 y.f2 y.f3 y.f4) (same7 x y) := by
  have hf : ∀ k, order_Same.j0 (k + 1) true x.f0 x.f1 x.f2 x.f3 x.f4 y.f0 y.f1 y.f2 y.f3 y.f4 = some false := fun k => by simp only [order_Same.j0, if_true]
  have no : ∀ P : Prop, [Decidable P] → ¬ P → Ev (fun k => order_Same.j0 k true x.f0 x.f1 x.f2 x.f3 x.f4 y.f0 y.f1 y.f2 y.f3 y.f4) (decide P && sm7 x.f4 y.f4) := by
    intro P _ hP
    rw [decide_eq_false hP, Bool.false_and]
    exact ev_succ (by simp only [hf]; exact Ev.now _)
  unfold order_Same.f same7
  by_cases c0 : x.f0 = y.f0
  · simp only [if_pos c0]
    by_cases c1 : x.f1 = y.f1
    · simp only [if_pos c1]
      by_cases c2 : x.f2 = y.f2
      · simp only [if_pos c2]
        by_cases c3 : x.f3 = y.f3
        · simp only [if_pos c3]
          by_cases c4 : x.f4.length = y.f4.length
          · have e : ((x.f4.length : Int) != (y.f4.length : Int)) = false := by simp [c4]
            rw [e, decide_eq_true ⟨c0, c1, c2, c3, c4⟩, Bool.true_and]
            refine ev_succ ?_
            simp only [order_Same.j0, Bool.false_eq_true, if_false]
            exact os7_l0 x y hx c4 x.f4.length 0 (by omega)
          · have e : ((x.f4.length : Int) != (y.f4.length : Int)) = true := by simp; omega
            rw [e]
            exact no _ (fun h => c4 h.2.2.2.2)
        · simp only [if_neg c3]
          exact no _ (fun h => c3 h.2.2.2.1)
      · simp only [if_neg c2]
        exact no _ (fun h => c2 h.2.2.1)
    · simp only [if_neg c1]
      exact no _ (fun h => c1 h.2.1)
  · simp only [if_neg c0]
    exact no _ (fun h => c0 h.1)
theorem rs7_l0 (a b : List S50) (ha : a.length ≤ 1000000) (hab : a.length = b.length) (d : Nat) : ∀ i : Nat, i + d = a.length → Ev (fun k => haulierref03_Same.l0 k a b (i : Int)) (sm7 (a.drop i) (b.drop i)) := by
  induction d with
  | zero =>
    intro i hi
    rw [List.drop_of_length_le (by omega)]
    refine ev_succ ?_
    simp only [haulierref03_Same.l0, if_neg (show ¬ (i : Int) < (a.length : Int) by omega), sm7]
    exact Ev.now _
  | succ d ih =>
    intro i hi
    have h := ih (i + 1) (by omega)
    rw [show (((i + 1 : Nat) : Int)) = (i : Int) + 1 by omega] at h
    rw [rdP_drop a i (by omega), rdP_drop b i (by omega), sm7]
    refine ev_succ ?_
    simp only [haulierref03_Same.l0, if_pos (show (i : Int) < (a.length : Int) by omega), if_pos (show (i : Int) < (b.length : Int) by omega), if_pos (show (0 : Int) ≤ (i : Int) by omega), w64 (x := (i : Int) + 1) (by omega) (by omega)]
    split
    · exact Ev.now _
    · exact h
theorem rs7_f (x y : S25) (hx : x.f4.length ≤ 1000000) : Ev (fun k => haulierref28_Same.f k x.f0 x.f1 x.f2 x.f3 x.f4 y.f0 y.f1 y.f2 y.f3 y.f4) (same7 x y) := by
  have no : ∀ P : Prop, [Decidable P] → ¬ P → Ev (fun _ => some false) (decide P && sm7 x.f4 y.f4) := by
    intro P _ hP
    rw [decide_eq_false hP, Bool.false_and]
    exact Ev.now _
  unfold haulierref28_Same.f same7 haulierref03_Same.f
  by_cases c0 : x.f0 = y.f0
  · simp only [if_pos c0]
    by_cases c1 : x.f1 = y.f1
    · simp only [if_pos c1]
      by_cases c2 : x.f2 = y.f2
      · simp only [if_pos c2]
        by_cases c3 : x.f3 = y.f3
        · simp only [if_pos c3]
          by_cases c4 : x.f4.length = y.f4.length
          · rw [decide_eq_true ⟨c0, c1, c2, c3, c4⟩, Bool.true_and]
            simp only [if_pos (show (x.f4.length : Int) = (y.f4.length : Int) by omega)]
            exact Ev.bind (rs7_l0 x.f4 y.f4 hx c4 x.f4.length 0 (by omega)) (Ev.now _)
          · simp only [if_neg (show ¬ (x.f4.length : Int) = (y.f4.length : Int) by omega), Option.bind_some]
            exact no _ (fun h => c4 h.2.2.2.2)
        · simp only [if_neg c3]
          exact no _ (fun h => c3 h.2.2.2.1)
      · simp only [if_neg c2]
        exact no _ (fun h => c2 h.2.2.1)
    · simp only [if_neg c1]
      exact no _ (fun h => c1 h.2.1)
  · simp only [if_neg c0]
    exact no _ (fun h => c0 h.1)
theorem sm7_self (l : List S50) : sm7 l l = true := by
  induction l with
  | nil => rfl
  | cons x t ih => simp [sm7, ih]
theorem same7_self (x : S25) : same7 x x = true := by simp [same7, sm7_self]

theorem OrderChecks : haulierlaw28_OrderChecks.Pure := by
  intro a0 a1 a2 a3 l4 b0 b1 b2 b3 m4 p
  intros
  refine Ev.rounds ?_
  unfold haulierlaw28_OrderChecks.f
  refine Ev.bind (light_f _) ?_
  simp only [if_pos oalive_f]
  cases h : lightS [⟨a0, a1, a2, a3, l4⟩, ⟨b0, b1, b2, b3, m4⟩] with
  | false =>
    simp only [Bool.false_eq_true, if_false]
    exact Ev.now _
  | true =>
    have hf := lgtS_few [⟨a0, a1, a2, a3, l4⟩, ⟨b0, b1, b2, b3, m4⟩] (by simpa [lightS] using h)
    have h1 : l4.length ≤ 20 := hf ⟨a0, a1, a2, a3, l4⟩ (by simp)
    simp only [if_true]
    refine Ev.bind (chk_f ⟨a0, a1, a2, a3, l4⟩ p) ?_
    refine Ev.bind (rchk_f ⟨a0, a1, a2, a3, l4⟩ p) ?_
    refine Ev.bind (os7_f ⟨a0, a1, a2, a3, l4⟩ ⟨b0, b1, b2, b3, m4⟩ (by show l4.length ≤ _; omega)) ?_
    refine Ev.bind (rs7_f ⟨a0, a1, a2, a3, l4⟩ ⟨b0, b1, b2, b3, m4⟩ (by show l4.length ≤ _; omega)) ?_
    refine Ev.bind (os7_f ⟨a0, a1, a2, a3, l4⟩ ⟨a0, a1, a2, a3, l4⟩ (by show l4.length ≤ _; omega)) ?_
    simp only [same7_self, and_self, if_true]
    exact Ev.now _


end Go.Proofs.Ytkedaiamhcgdkaa.Pure
