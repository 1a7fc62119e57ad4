/- Orders that may be still may be with one more that may be, which is found then; without it they are what they were: lemmas on Check, Right, Find, Add, Drop, Same and the pure statement of OrderKeeps. -/
import Derived.Test.YtkedaiamhcgdkaaMOrderKeepsx9
set_option linter.unusedVariables false
set_option linter.unusedSimpArgs false
namespace Go.Proofs.Ytkedaiamhcgdkaa.Pure
open Go.RowKit Go.Proofs.Ytkedaiamhcgdkaa.MOrderKeeps Go.Proofs.YtkedaiamhcgdkaaW.PrintWords Go.Proofs.YtkedaiamhcgdkaaW.PrintLast

theorem w64 {x : Int} (h0 : -9223372036854775808 ≤ x) (h1 : x ≤ 9223372036854775807) : wrap64 x = x := by
  unfold wrap64
  omega
theorem tmod_nn {a : Int} (h : 0 ≤ a) (b : Int) : Int.tmod a b = a % b := by
  rw [Int.tmod_eq_emod_of_nonneg h]
theorem tdiv_nn {a : Int} (h : 0 ≤ a) (b : Int) : Int.tdiv a b = a / b := by
  rw [Int.tdiv_eq_ediv_of_nonneg h]
theorem ev_succ {α : Type} {g : Nat → Option α} {r : α} (h : Ev (fun k => g (k + 1)) r) : Ev g r := by
  obtain ⟨K, h⟩ := h
  refine ⟨K + 1, fun n hn => ?_⟩
  obtain ⟨m, rfl⟩ : ∃ m, n = m + 1 := ⟨n - 1, by omega⟩
  exact h m (by omega)

theorem rdO_drop (xs : List S25) (i : Nat) (h : i < xs.length) : xs.drop i = rd_T25 xs (i : Int) :: xs.drop (i + 1) := by
  rw [List.drop_eq_getElem_cons h]
  simp [rd_T25, h]
theorem rdP_drop (xs : List S50) (i : Nat) (h : i < xs.length) : xs.drop i = rd_T50 xs (i : Int) :: xs.drop (i + 1) := by
  rw [List.drop_eq_getElem_cons h]
  simp [rd_T50, h]
/-- Every order has few spans. -/
def Few (l : List S25) : Prop := ∀ x ∈ l, x.f4.length ≤ 20
def lgtS : List S25 → Bool
  | [] => true
  | x :: t => if 20 < x.f4.length then false else lgtS t
theorem lgtS_few (l : List S25) (h : lgtS l = true) : Few l := by
  induction l with
  | nil => intro x hx; simp at hx
  | cons y t ih =>
    rw [lgtS] at h
    by_cases c : 20 < y.f4.length
    · rw [if_pos c] at h
      simp at h
    · rw [if_neg c] at h
      intro x hx
      rcases List.mem_cons.1 hx with rfl | hx
      · omega
      · exact ih h x hx
theorem light_l0 (l : List S25) (hl : l.length ≤ 1000000) (d : Nat) : ∀ i : Nat, i + d = l.length → Ev (fun k => haulierlaw28_Light.l0 k l (l.length : Int) (i : Int)) (lgtS (l.drop i)) := by
  induction d with
  | zero =>
    intro i hi
    rw [List.drop_of_length_le (by omega)]
    refine ev_succ ?_
    simp only [haulierlaw28_Light.l0, if_neg (show ¬ (i : Int) < (l.length : Int) by omega)]
    exact Ev.now _
  | succ d ih =>
    intro i hi
    have h := ih (i + 1) (by omega)
    rw [show (((i + 1 : Nat) : Int)) = (i : Int) + 1 by omega] at h
    rw [rdO_drop l i (by omega), lgtS]
    refine ev_succ ?_
    simp only [haulierlaw28_Light.l0, if_pos (show (i : Int) < (l.length : Int) by omega), if_pos (show (0 : Int) ≤ (i : Int) by omega), w64 (x := (i : Int) + 1) (by omega) (by omega)]
    by_cases c : 20 < (rd_T25 l (i : Int)).f4.length
    · simp only [if_pos c, if_pos (show ((rd_T25 l (i : Int)).f4.length : Int) > 20 by omega)]
      exact Ev.now _
    · simp only [if_neg c, if_neg (show ¬ ((rd_T25 l (i : Int)).f4.length : Int) > 20 by omega)]
      exact h
def lightS (l : List S25) : Bool := if l.length > 2010 then false else lgtS l
theorem light_f (l : List S25) : Ev (fun k => haulierlaw28_Light.f k l) (lightS l) := by
  unfold haulierlaw28_Light.f lightS
  by_cases c : l.length > 2010
  · simp only [if_pos c, if_pos (show (l.length : Int) > 2010 by omega)]
    exact Ev.now _
  · simp only [if_neg c, if_neg (show ¬ (l.length : Int) > 2010 by omega)]
    exact light_l0 l (by omega) l.length 0 (by omega)
/-! which one has an ID -/
def atS (l : List S25) (id : Int) : Int := order_at.ixF (fun x => decide (x.f0 = id)) l 0
theorem at_f (l : List S25) (id : Int) : order_at.f l id = some (atS l id) := rfl
theorem at_bound (p : S25 → Bool) (l : List S25) : ∀ i : Int, order_at.ixF p l i = -1 ∨ (i ≤ order_at.ixF p l i ∧ order_at.ixF p l i < i + l.length) := by
  induction l with
  | nil => intro i; exact .inl rfl
  | cons x t ih =>
    intro i
    rw [order_at.ixF]
    by_cases h : p x = true
    · rw [if_pos h]
      simp only [List.length_cons]
      omega
    · rw [if_neg h]
      have := ih (i + 1)
      simp only [List.length_cons]
      omega

theorem few_drop {l : List S25} (h : Few l) (i : Nat) : Few (l.drop i) := fun x hx => h x (List.mem_of_mem_drop hx)
theorem few_rd {l : List S25} (h : Few l) (i : Nat) (hi : i < l.length) : (rd_T25 l (i : Int)).f4.length ≤ 20 := by
  refine h _ ?_
  have := List.mem_of_mem_drop (l := l) (i := i) (a := rd_T25 l (i : Int)) (by rw [rdO_drop l i hi]; exact List.mem_cons_self)
  exact this

/-! one more -/
def insS (o : S25) : List S25 → List S25
  | [] => [o]
  | x :: t => if o.f0 < x.f0 then o :: x :: t else x :: insS o t
def addS (l : List S25) (o : S25) : List S25 × Int := if 0 ≤ atS l o.f0 then ([], 11) else if 2000 ≤ l.length then ([], 12) else (insS o l, 0)
theorem own_f (x : S25) (h : x.f4.length ≤ 20) : order_own.f x.f0 x.f1 x.f2 x.f3 x.f4 = some (x.f0, x.f1, x.f2, x.f3, x.f4) := by
  show ((if x.f4.length < 8796093022208 then some x.f4 else none : Option (List S50)).bind fun t => some (x.f0, x.f1, x.f2, x.f3, t)) = _
  rw [if_pos (show x.f4.length < 8796093022208 by omega)]
  rfl
theorem ownAll_f (l : List S25) (h : Few l) : order_Add.ownAll l = some l := by
  induction l with
  | nil => rfl
  | cons x t ih => rw [order_Add.ownAll, own_f x (h x List.mem_cons_self), Option.bind_some, ih (fun y hy => h y (List.mem_cons_of_mem _ hy))]; rfl
theorem ix_ins (o : S25) (l : List S25) : ∀ i : Int, 0 ≤ i → (order_Add.ixF (fun x => decide (o.f0 < x.f0)) l i = -1 ∧ insS o l = l ++ [o]) ∨
    (∃ m : Nat, m < l.length ∧ order_Add.ixF (fun x => decide (o.f0 < x.f0)) l i = i + (m : Int) ∧ insS o l = l.take m ++ ([o] ++ l.drop m)) := by
  induction l with
  | nil => intro i _; exact .inl ⟨rfl, rfl⟩
  | cons x t ih =>
    intro i hi
    rw [order_Add.ixF, insS]
    by_cases c : o.f0 < x.f0
    · right
      refine ⟨0, by simp, ?_, ?_⟩
      · simp [c]
      · simp [c]
    · rw [if_neg (by simpa using c), if_neg c]
      rcases ih (i + 1) (by omega) with ⟨h1, h2⟩ | ⟨m, hm, h1, h2⟩
      · left
        exact ⟨h1, by rw [h2]; rfl⟩
      · right
        refine ⟨m + 1, by simp; omega, by rw [h1]; omega, by rw [h2]; rfl⟩
theorem mid_ins (o : S25) (l : List S25) : order_Add.mid l o (if order_Add.ixF (fun x => decide (o.f0 < x.f0)) l 0 < 0 then l.length else (order_Add.ixF (fun x => decide (o.f0 < x.f0)) l 0).toNat) = insS o l := by
  unfold order_Add.mid
  rcases ix_ins o l 0 (Int.le_refl _) with ⟨h1, h2⟩ | ⟨m, hm, h1, h2⟩
  · rw [h1, h2, if_pos (by omega)]
    simp
  · rw [h1, h2, if_neg (by omega), show ((0 : Int) + (m : Int)).toNat = m by omega]
theorem few_ins {o : S25} {l : List S25} (h : Few l) (ho : o.f4.length ≤ 20) : Few (insS o l) := by
  induction l with
  | nil =>
    intro x hx
    obtain rfl := List.mem_singleton.1 hx
    exact ho
  | cons y t ih =>
    rw [insS]
    split
    · intro x hx
      rcases List.mem_cons.1 hx with rfl | hx
      · exact ho
      · exact h x hx
    · intro x hx
      rcases List.mem_cons.1 hx with rfl | hx
      · exact h _ List.mem_cons_self
      · exact ih (fun z hz => h z (List.mem_cons_of_mem _ hz)) x hx
theorem ins_len (o : S25) (l : List S25) : (insS o l).length = l.length + 1 := by
  induction l with
  | nil => rfl
  | cons y t ih =>
    rw [insS]
    split
    · rfl
    · simp [ih]
theorem add_f (l : List S25) (o : S25) (h : Few l) (ho : o.f4.length ≤ 20) : order_Add.f l o.f0 o.f1 o.f2 o.f3 o.f4 = some (addS l o) := by
  unfold order_Add.f addS
  rw [at_f, Option.bind_some]
  by_cases c : 0 ≤ atS l o.f0
  · rw [if_pos c, if_pos (show atS l o.f0 ≥ 0 from c)]
  rw [if_neg c, if_neg (show ¬ atS l o.f0 ≥ 0 from c)]
  by_cases c2 : 2000 ≤ l.length
  · rw [if_pos c2, if_pos c2]
  rw [if_neg c2, if_neg c2, mid_ins o l, ownAll_f _ (few_ins h ho)]
  rfl

/-! one less -/
def remS (t : Int) : List S25 → Int → List S25
  | [], _ => []
  | x :: u, i => if i = t then remS t u (i + 1) else x :: remS t u (i + 1)
theorem few_rem {t : Int} {l : List S25} (h : Few l) : ∀ i : Int, Few (remS t l i) := by
  induction l with
  | nil => intro i x hx; simp [remS] at hx
  | cons y u ih =>
    intro i
    have h2 : Few u := fun z hz => h z (List.mem_cons_of_mem _ hz)
    rw [remS]
    split
    · exact ih h2 _
    · intro x hx
      rcases List.mem_cons.1 hx with rfl | hx
      · exact h _ List.mem_cons_self
      · exact ih h2 _ x hx
theorem rem_len {t : Int} {l : List S25} : ∀ i : Int, (remS t l i).length ≤ l.length := by
  induction l with
  | nil => intro i; simp [remS]
  | cons y u ih =>
    intro i
    rw [remS]
    have := ih (i + 1)
    split
    · simp only [List.length_cons]; omega
    · simp only [List.length_cons]; omega
theorem drop_l0 (l : List S25) (t : Int) (hf : Few l) (hl : l.length ≤ 1000000) (d : Nat) : ∀ (i : Nat) (out : List S25), i + d = l.length → out.length ≤ i → Ev (fun k => order_Drop.l0 k t out l (l.length : Int) (i : Int)) (out ++ remS t (l.drop i) (i : Int), 0) := by
  induction d with
  | zero =>
    intro i out hi ho
    rw [List.drop_of_length_le (by omega), remS, List.append_nil]
    refine ev_succ ?_
    simp only [order_Drop.l0, if_neg (show ¬ (i : Int) < (l.length : Int) by omega)]
    exact Ev.now _
  | succ d ih =>
    intro i out hi ho
    rw [rdO_drop l i (by omega), remS]
    refine ev_succ ?_
    simp only [order_Drop.l0, if_pos (show (i : Int) < (l.length : Int) by omega), if_pos (show (0 : Int) ≤ (i : Int) by omega), w64 (x := (i : Int) + 1) (by omega) (by omega)]
    by_cases c : (i : Int) = t
    · simp only [if_pos c]
      have h := ih (i + 1) out (by omega) (by omega)
      rw [show (((i + 1 : Nat) : Int)) = (i : Int) + 1 by omega] at h
      exact h
    · simp only [if_neg c, own_f (rd_T25 l (i : Int)) (few_rd hf i (by omega)), Option.bind_some, if_pos (show out.length < 2513169434916 by omega)]
      have h := ih (i + 1) (out ++ [rd_T25 l (i : Int)]) (by omega) (by simp; omega)
      rw [show (((i + 1 : Nat) : Int)) = (i : Int) + 1 by omega] at h
      simpa only [List.append_assoc, List.singleton_append] using h
def dropS (l : List S25) (id : Int) : List S25 × Int := if atS l id < 0 then ([], 13) else (remS (atS l id) l 0, 0)
theorem drop_f (l : List S25) (id : Int) (hf : Few l) (hl : l.length ≤ 1000000) : Ev (fun k => order_Drop.f k l id) (dropS l id) := by
  unfold order_Drop.f dropS
  simp only [at_f, Option.bind_some]
  by_cases c : atS l id < 0
  · simp only [if_pos c]
    exact Ev.now _
  · simp only [if_neg c]
    exact drop_l0 l _ hf hl l.length 0 [] (by omega) (by simp)

theorem oalive_f : haulierlaw28_alive.f = some true := by decide

/-! windows -/
def rgS : List S50 → Option Int → Bool
  | [], _ => true
  | x :: t, p => if ¬ x.f0 < x.f1 then false else if (∃ e, p = some e ∧ x.f0 ≤ e) then false else rgS t (some x.f1)
def prevP (l : List S50) (i : Nat) : Option Int := if i = 0 then none else some (rd_T50 l ((i - 1 : Nat) : Int)).f1
theorem ivr_l0 (l : List S50) (hl : l.length ≤ 1000000) (d : Nat) : ∀ i : Nat, i + d = l.length → Ev (fun k => ivals_Right.l0 k l l (l.length : Int) (i : Int)) (rgS (l.drop i) (prevP l i)) := by
  induction d with
  | zero =>
    intro i hi
    rw [List.drop_of_length_le (by omega), rgS]
    refine ev_succ ?_
    simp only [ivals_Right.l0, if_neg (show ¬ (i : Int) < (l.length : Int) by omega)]
    exact Ev.now _
  | succ d ih =>
    intro i hi
    have h := ih (i + 1) (by omega)
    rw [show (((i + 1 : Nat) : Int)) = (i : Int) + 1 by omega, show prevP l (i + 1) = some (rd_T50 l (i : Int)).f1 by simp [prevP]] at h
    rw [rdP_drop l i (by omega), rgS]
    refine ev_succ ?_
    simp only [ivals_Right.l0, ival_Right.f, Option.bind_some, if_pos (show (i : Int) < (l.length : Int) by omega), if_pos (show (0 : Int) ≤ (i : Int) by omega), w64 (x := (i : Int) + 1) (by omega) (by omega), w64 (x := (i : Int) - 1) (by omega) (by omega), decide_eq_true_eq]
    by_cases c : (rd_T50 l (i : Int)).f0 < (rd_T50 l (i : Int)).f1
    · simp only [if_pos c, if_neg (show ¬ ¬ (rd_T50 l (i : Int)).f0 < (rd_T50 l (i : Int)).f1 from fun h => h c)]
      by_cases c0 : i = 0
      · subst c0
        simp only [if_neg (show ¬ ((0 : Nat) : Int) > 0 by omega), prevP, if_true, reduceCtorEq, false_and, exists_false, if_false]
        exact h
      · simp only [if_pos (show (i : Int) > 0 by omega), if_pos (show (0 : Int) ≤ ((i - 1 : Nat) : Int) by omega), if_pos (show ((i - 1 : Nat) : Int) < (l.length : Int) by omega), prevP, if_neg c0, Option.some.injEq, exists_eq_left', show (i : Int) - 1 = ((i - 1 : Nat) : Int) by omega]
        by_cases c1 : (rd_T50 l (i : Int)).f0 ≤ (rd_T50 l ((i - 1 : Nat) : Int)).f1
        · simp only [if_pos c1]
          exact Ev.now _
        · simp only [if_neg c1]
          exact h
    · simp only [if_neg c, if_pos (show ¬ (rd_T50 l (i : Int)).f0 < (rd_T50 l (i : Int)).f1 from c)]
      exact Ev.now _
theorem ivr_f (l : List S50) (hl : l.length ≤ 1000000) : Ev (fun k => ivals_Right.f k l) (rgS l none) := ivr_l0 l hl l.length 0 (by omega)
def winS (l : List S50) : Int := if l.length = 0 then 13 else if 8 < l.length then 12 else if l.any window_Check.p1 = true then 3 else if l.any window_Check.p2 = true then 4 else if rgS l none = true then 0 else 6
theorem win_f (l : List S50) : Ev (fun k => window_Check.f k l) (winS l) := by
  unfold window_Check.f winS
  by_cases c0 : l.length = 0
  · simp only [if_pos c0]
    exact Ev.now _
  simp only [if_neg c0]
  by_cases c1 : 8 < l.length
  · simp only [if_pos c1]
    exact Ev.now _
  simp only [if_neg c1]
  by_cases c2 : l.any window_Check.p1 = true
  · simp only [if_pos c2]
    exact Ev.now _
  simp only [if_neg c2]
  by_cases c3 : l.any window_Check.p2 = true
  · simp only [if_pos c3]
    exact Ev.now _
  simp only [if_neg c3]
  exact Ev.bind (ivr_f l (by omega)) (Ev.now _)
/-! an order -/
def chkS (x : S25) (p : Int) : Int := if ¬ (1 ≤ x.f0 ∧ x.f0 ≤ 999999) then 1 else if x.f1 < 0 ∨ p ≤ x.f1 then 10 else if ¬ ((-1000000 ≤ x.f2 ∧ x.f2 ≤ 1000000) ∧ (1 ≤ x.f3 ∧ x.f3 ≤ 1440)) then 4 else winS x.f4
theorem within_f (a b c : Int) : order_within.f a b c = some (decide (b ≤ a ∧ a ≤ c)) := by
  unfold order_within.f
  by_cases h : b ≤ a
  · rw [if_pos (show a ≥ b from h)]
    simp [h]
  · rw [if_neg (show ¬ a ≥ b from h)]
    simp [h]
theorem chk_j0 (x : S25) (p : Int) (b : Bool) (hb : b = true ↔ (x.f1 < 0 ∨ p ≤ x.f1)) (h0 : 1 ≤ x.f0 ∧ x.f0 ≤ 999999) : Ev (fun k => order_Check.j0 k b x.f0 x.f1 x.f2 x.f3 x.f4) (chkS x p) := by
  refine ev_succ ?_
  simp only [order_Check.j0, within_f, Option.bind_some, decide_eq_true_eq, chkS, if_neg (show ¬ ¬ (1 ≤ x.f0 ∧ x.f0 ≤ 999999) from fun h => h h0)]
  by_cases c : x.f1 < 0 ∨ p ≤ x.f1
  · simp only [if_pos c, if_pos (hb.2 c)]
    exact Ev.now _
  simp only [if_neg c, if_neg (show ¬ b = true from fun h => c (hb.1 h))]
  by_cases c2 : -1000000 ≤ x.f2 ∧ x.f2 ≤ 1000000
  · simp only [if_pos c2]
    by_cases c3 : 1 ≤ x.f3 ∧ x.f3 ≤ 1440
    · simp only [if_pos c3, if_neg (show ¬ ¬ ((-1000000 ≤ x.f2 ∧ x.f2 ≤ 1000000) ∧ (1 ≤ x.f3 ∧ x.f3 ≤ 1440)) from fun h => h ⟨c2, c3⟩)]
      exact Ev.bind (win_f x.f4) (Ev.now _)
    · simp only [if_neg c3, if_pos (show ¬ ((-1000000 ≤ x.f2 ∧ x.f2 ≤ 1000000) ∧ (1 ≤ x.f3 ∧ x.f3 ≤ 1440)) from fun h => c3 h.2)]
      exact Ev.now _
  · simp only [if_neg c2, if_pos (show ¬ ((-1000000 ≤ x.f2 ∧ x.f2 ≤ 1000000) ∧ (1 ≤ x.f3 ∧ x.f3 ≤ 1440)) from fun h => c2 h.1)]
    exact Ev.now _
theorem chk_f (x : S25) (p : Int) : Ev (fun k => order_Check.f k x.f0 x.f1 x.f2 x.f3 x.f4 p) (chkS x p) := by
  unfold order_Check.f
  simp only [within_f, Option.bind_some, decide_eq_true_eq]
  by_cases h0 : 1 ≤ x.f0 ∧ x.f0 ≤ 999999
  · simp only [if_pos h0]
    by_cases c : x.f1 < 0
    · simp only [if_pos c]
      exact chk_j0 x p true (by simp [c]) h0
    · simp only [if_neg c]
      exact chk_j0 x p _ (by simp [c]) h0
  · simp only [if_neg h0, chkS, if_pos (show ¬ (1 ≤ x.f0 ∧ x.f0 ≤ 999999) from h0)]
    exact Ev.now _
theorem chk_pos {x : S25} {p : Int} (h : chkS x p = 0) : 1 ≤ x.f0 := by
  unfold chkS at h
  by_cases c : 1 ≤ x.f0 ∧ x.f0 ≤ 999999
  · exact c.1
  · rw [if_pos c] at h
    simp at h
/-! orders -/
def rgtS (p : Int) : Int → List S25 → Int → Int × Int
  | _, [], _ => (0, 0)
  | last, x :: t, i => if chkS x p = 0 then (if x.f0 = last then (i, 11) else if x.f0 < last then (i, 18) else rgtS p x.f0 t (i + 1)) else (i, chkS x p)
theorem right_l0 (l : List S25) (p : Int) (hl : l.length ≤ 1000000) (d : Nat) : ∀ (i : Nat) (last : Int), i + d = l.length → Ev (fun k => order_Right.l0 k p last l (l.length : Int) (i : Int)) (rgtS p last (l.drop i) (i : Int)) := by
  induction d with
  | zero =>
    intro i last hi
    rw [List.drop_of_length_le (by omega), rgtS]
    refine ev_succ ?_
    simp only [order_Right.l0, if_neg (show ¬ (i : Int) < (l.length : Int) by omega)]
    exact Ev.now _
  | succ d ih =>
    intro i last hi
    have h := ih (i + 1) (rd_T25 l (i : Int)).f0 (by omega)
    rw [show (((i + 1 : Nat) : Int)) = (i : Int) + 1 by omega] at h
    rw [rdO_drop l i (by omega), rgtS]
    refine ev_succ ?_
    simp only [order_Right.l0, if_pos (show (i : Int) < (l.length : Int) by omega), if_pos (show (0 : Int) ≤ (i : Int) by omega), w64 (x := (i : Int) + 1) (by omega) (by omega)]
    refine Ev.bind (chk_f (rd_T25 l (i : Int)) p) ?_
    by_cases c : chkS (rd_T25 l (i : Int)) p = 0
    · simp only [if_pos c]
      by_cases c1 : (rd_T25 l (i : Int)).f0 = last
      · simp only [if_pos c1]
        exact Ev.now _
      simp only [if_neg c1]
      by_cases c2 : (rd_T25 l (i : Int)).f0 < last
      · simp only [if_pos c2]
        exact Ev.now _
      simp only [if_neg c2]
      exact h
    · simp only [if_neg c]
      exact Ev.now _
def rightS (l : List S25) (p : Int) : Int × Int := if l.length > 2000 then (0, 12) else rgtS p 0 l 0
theorem right_f (l : List S25) (p : Int) : Ev (fun k => order_Right.f k l p) (rightS l p) := by
  unfold order_Right.f rightS
  by_cases c : l.length > 2000
  · simp only [if_pos c, if_pos (show (l.length : Int) > 2000 by omega)]
    exact Ev.now _
  · simp only [if_neg c, if_neg (show ¬ (l.length : Int) > 2000 by omega)]
    exact right_l0 l p (by omega) l.length 0 0 (by omega)
def findS (l : List S25) (id : Int) : Int × Int × Int × Int × (List S50) × Bool := if atS l id < 0 then (0, 0, 0, 0, [], false) else ((rd_T25 l (atS l id)).f0, (rd_T25 l (atS l id)).f1, (rd_T25 l (atS l id)).f2, (rd_T25 l (atS l id)).f3, (rd_T25 l (atS l id)).f4, true)
theorem find_f (l : List S25) (id : Int) (h : Few l) : order_Find.f l id = some (findS l id) := by
  unfold order_Find.f findS
  rw [at_f, Option.bind_some]
  by_cases c : atS l id < 0
  · rw [if_pos c, if_pos c]
  · have hb := at_bound (fun x => decide (x.f0 = id)) l 0
    have hb2 : atS l id < l.length := by
      unfold atS at c ⊢
      omega
    rw [if_neg c, if_neg c, if_pos (by omega), if_pos hb2]
    obtain ⟨m, hm⟩ : ∃ m : Nat, atS l id = (m : Int) := ⟨(atS l id).toNat, by omega⟩
    rw [hm] at hb2 ⊢
    rw [own_f _ (few_rd h m (by omega))]
    rfl
/-! two orders are the same -/
theorem osame_l0 (x : S25) (hx : x.f4.length ≤ 1000000) (d : Nat) : ∀ i : Nat, i + d = x.f4.length → Ev (fun k => order_Same.l0 k (x.f4.length : Int) (i : Int) x.f0 x.f1 x.f2 x.f3 x.f4 x.f0 x.f1 x.f2 x.f3 x.f4) true := by
  induction d with
  | zero =>
    intro i hi
    refine ev_succ ?_
    simp only [order_Same.l0, if_neg (show ¬ (i : Int) < (x.f4.length : Int) by omega)]
    exact Ev.now _
  | succ d ih =>
    intro i hi
    have h := ih (i + 1) (by omega)
    rw [show (((i + 1 : Nat) : Int)) = (i : Int) + 1 by omega] at h
    refine ev_succ ?_
    simp only [order_Same.l0, if_pos (show (i : Int) < (x.f4.length : Int) by omega), if_pos (show (0 : Int) ≤ (i : Int) by omega), w64 (x := (i : Int) + 1) (by omega) (by omega), beq_self_eq_true, Bool.not_true, Bool.or_self, Bool.false_eq_true, if_false]
    exact h
theorem osame_f (x : S25) (hx : x.f4.length ≤ 1000000) : Ev (fun k => order_Same.f k x.f0 x.f1 x.f2 x.f3 x.f4 x.f0 x.f1 x.f2 x.f3 x.f4) true := by
  unfold order_Same.f
  simp only [if_true, bne_self_eq_false]
  refine ev_succ ?_
  simp only [order_Same.j0, Bool.false_eq_true, if_false]
  exact osame_l0 x hx x.f4.length 0 (by omega)

theorem rgt_any (p : Int) (l : List S25) : ∀ (last i j : Int), (rgtS p last l i).2 = (rgtS p last l j).2 := by
  induction l with
  | nil => intros; rfl
  | cons x t ih =>
    intro last i j
    simp only [rgtS]
    split
    · split
      · rfl
      split
      · rfl
      exact ih _ _ _
    · rfl
theorem rgt_ins (p : Int) (o : S25) (ho : chkS o p = 0) (l : List S25) : ∀ (last i : Int), last < o.f0 → (∀ x ∈ l, x.f0 ≠ o.f0) → (rgtS p last l i).2 = 0 → (rgtS p last (insS o l) i).2 = 0 := by
  induction l with
  | nil =>
    intro last i hlast _ _
    simp only [insS, rgtS, if_pos ho, if_neg (show ¬ o.f0 = last by omega), if_neg (show ¬ o.f0 < last by omega)]
  | cons x t ih =>
    intro last i hlast hne h
    have hx := hne x List.mem_cons_self
    rw [rgtS] at h
    by_cases c : chkS x p = 0
    · rw [if_pos c] at h
      by_cases c1 : x.f0 = last
      · rw [if_pos c1] at h
        simp at h
      rw [if_neg c1] at h
      by_cases c2 : x.f0 < last
      · rw [if_pos c2] at h
        simp at h
      rw [if_neg c2] at h
      rw [insS]
      by_cases c3 : o.f0 < x.f0
      · rw [if_pos c3]
        simp only [rgtS, if_pos ho, if_pos c, if_neg (show ¬ o.f0 = last by omega), if_neg (show ¬ o.f0 < last by omega), if_neg (show ¬ x.f0 = o.f0 by omega), if_neg (show ¬ x.f0 < o.f0 by omega)]
        rw [rgt_any p t x.f0 (i + 1 + 1) (i + 1)]
        exact h
      · rw [if_neg c3]
        simp only [rgtS, if_pos c, if_neg c1, if_neg c2]
        exact ih x.f0 (i + 1) (by omega) (fun y hy => hne y (List.mem_cons_of_mem _ hy)) h
    · rw [if_neg c] at h
      exact absurd h c
theorem at_none (l : List S25) (id : Int) : ∀ i : Int, 0 ≤ i → order_at.ixF (fun x => decide (x.f0 = id)) l i < 0 → ∀ x ∈ l, x.f0 ≠ id := by
  induction l with
  | nil => intro i _ _ x hx; simp at hx
  | cons y t ih =>
    intro i hi h x hx
    rw [order_at.ixF] at h
    by_cases c : y.f0 = id
    · rw [if_pos (by simpa using c)] at h
      omega
    · rw [if_neg (by simpa using c)] at h
      rcases List.mem_cons.1 hx with rfl | hx
      · exact c
      · exact ih (i + 1) (by omega) h x hx
theorem rem_past (t : Int) (l : List S25) : ∀ i : Int, t < i → remS t l i = l := by
  induction l with
  | nil => intros; rfl
  | cons x u ih =>
    intro i hi
    rw [remS, if_neg (by omega), ih (i + 1) (by omega)]
theorem ins_at (o : S25) (l : List S25) (hne : ∀ x ∈ l, x.f0 ≠ o.f0) : ∀ i : Int, 0 ≤ i → ∃ m : Nat, order_at.ixF (fun x => decide (x.f0 = o.f0)) (insS o l) i = i + (m : Int) ∧ (insS o l)[m]? = some o ∧ remS (i + (m : Int)) (insS o l) i = l := by
  induction l with
  | nil =>
    intro i hi
    exact ⟨0, by simp [insS, order_at.ixF], rfl, by simp [insS, remS]⟩
  | cons x t ih =>
    intro i hi
    have hx := hne x List.mem_cons_self
    rw [insS]
    by_cases c : o.f0 < x.f0
    · rw [if_pos c]
      refine ⟨0, by simp [order_at.ixF], rfl, ?_⟩
      rw [remS, if_pos (by omega), rem_past _ _ _ (by omega)]
    · rw [if_neg c]
      obtain ⟨m, h1, h2, h3⟩ := ih (fun y hy => hne y (List.mem_cons_of_mem _ hy)) (i + 1) (by omega)
      refine ⟨m + 1, ?_, by simpa using h2, ?_⟩
      · rw [order_at.ixF, if_neg (by simpa using hx), h1]
        omega
      · rw [remS, if_neg (by omega), show i + ((m + 1 : Nat) : Int) = i + 1 + (m : Int) by omega, h3]
theorem keeps_l0 (l : List S25) (hl : l.length ≤ 1000000) (hf : Few l) (d : Nat) : ∀ i : Nat, i + d = l.length → Ev (fun k => haulierlaw28_OrderKeeps.l0 k l l (l.length : Int) (i : Int)) true := by
  induction d with
  | zero =>
    intro i hi
    refine ev_succ ?_
    simp only [haulierlaw28_OrderKeeps.l0, if_neg (show ¬ (i : Int) < (l.length : Int) by omega), oalive_f, Option.bind_some]
    exact Ev.now _
  | succ d ih =>
    intro i hi
    have h := ih (i + 1) (by omega)
    rw [show (((i + 1 : Nat) : Int)) = (i : Int) + 1 by omega] at h
    refine ev_succ ?_
    simp only [haulierlaw28_OrderKeeps.l0, if_pos (show (i : Int) < (l.length : Int) by omega), if_pos (show (0 : Int) ≤ (i : Int) by omega), w64 (x := (i : Int) + 1) (by omega) (by omega)]
    refine Ev.bind (osame_f (rd_T25 l (i : Int)) (by have := few_rd hf i (by omega); omega)) ?_
    simp only [if_true]
    exact h
theorem keeps_j1 (l : List S25) (o : S25) (p : Int) (b : Bool) (hb : b = false → Few l ∧ l.length < 2000 ∧ o.f4.length ≤ 20 ∧ (rightS l p).2 = 0 ∧ chkS o p = 0 ∧ atS l o.f0 < 0) : Ev (fun k => haulierlaw28_OrderKeeps.j1 k l p b o.f0 o.f1 o.f2 o.f3 o.f4) true := by
  refine ev_succ ?_
  simp only [haulierlaw28_OrderKeeps.j1, oalive_f, Option.bind_some]
  cases b with
  | true =>
    simp only [if_true]
    exact Ev.now _
  | false =>
    obtain ⟨hf, hl, ho, hr, hc, ha⟩ := hb rfl
    have hadd : addS l o = (insS o l, 0) := by
      unfold addS
      rw [if_neg (by omega), if_neg (by omega)]
    have hne := at_none l o.f0 0 (Int.le_refl _) ha
    have hli := ins_len o l
    have hr2 : (rightS (insS o l) p).2 = 0 := by
      unfold rightS at hr ⊢
      rw [if_neg (by omega)] at hr ⊢
      exact rgt_ins p o hc l 0 0 (by have := chk_pos hc; omega) hne hr
    obtain ⟨m, h1, h2, h3⟩ := ins_at o l hne 0 (Int.le_refl _)
    rw [Int.zero_add] at h1 h3
    have hat : atS (insS o l) o.f0 = (m : Int) := h1
    have hrd : rd_T25 (insS o l) (m : Int) = o := by simp [rd_T25, h2]
    have hfi := few_ins hf ho
    have hfind : findS (insS o l) o.f0 = (o.f0, o.f1, o.f2, o.f3, o.f4, true) := by
      unfold findS
      rw [hat, if_neg (by omega), hrd]
    have hdrop : dropS (insS o l) o.f0 = (l, 0) := by
      unfold dropS
      rw [hat, if_neg (by omega), h3]
    simp only [Bool.false_eq_true, if_false, add_f l o hf ho, hadd, Option.bind_some]
    refine Ev.bind (right_f (insS o l) p) ?_
    simp only [find_f _ _ hfi, hfind, Option.bind_some]
    have hd := drop_f (insS o l) o.f0 hfi (by omega)
    rw [hdrop] at hd
    refine Ev.bind hd ?_
    simp only [hr2, if_true]
    refine Ev.bind (osame_f o (by omega)) ?_
    simp only [if_true, hli, w64 (x := (l.length : Int) + 1) (by omega) (by omega), if_pos (show ((l.length + 1 : Nat) : Int) = (l.length : Int) + 1 by omega), bne_self_eq_false]
    refine ev_succ ?_
    simp only [haulierlaw28_OrderKeeps.j2, Bool.false_eq_true, if_false]
    exact keeps_l0 l (by omega) hf l.length 0 (by omega)
theorem keeps_j0 (l : List S25) (o : S25) (p : Int) (b : Bool) (hb : b = false → Few l ∧ l.length ≤ 2010 ∧ o.f4.length ≤ 20) : Ev (fun k => haulierlaw28_OrderKeeps.j0 k l p b o.f0 o.f1 o.f2 o.f3 o.f4) true := by
  refine ev_succ ?_
  simp only [haulierlaw28_OrderKeeps.j0, oalive_f, Option.bind_some]
  cases b with
  | true =>
    simp only [if_true]
    exact Ev.now _
  | false =>
    obtain ⟨hf, hl, ho⟩ := hb rfl
    simp only [Bool.false_eq_true, if_false]
    refine Ev.bind (right_f l p) ?_
    simp only [find_f l o.f0 hf, Option.bind_some]
    by_cases c : (rightS l p).2 = 0
    · simp only [if_pos c]
      refine Ev.bind (chk_f o p) ?_
      by_cases c2 : chkS o p = 0
      · simp only [if_pos c2]
        by_cases c3 : atS l o.f0 < 0
        · simp only [findS, if_pos c3, Bool.false_eq_true, if_false]
          refine keeps_j1 l o p _ (fun hd => ?_)
          have := of_decide_eq_false hd
          exact ⟨hf, by omega, ho, c, c2, c3⟩
        · simp only [findS, if_neg c3, if_true]
          exact keeps_j1 l o p true (fun h => by simp at h)
      · simp only [if_neg c2]
        exact keeps_j1 l o p true (fun h => by simp at h)
    · simp only [if_neg c]
      exact keeps_j1 l o p true (fun h => by simp at h)
theorem OrderKeeps : haulierlaw28_OrderKeeps.Pure := by
  intro l a0 a1 a2 a3 l4 p
  intros
  refine Ev.rounds ?_
  unfold haulierlaw28_OrderKeeps.f
  refine Ev.bind (light_f l) ?_
  cases h : lightS l with
  | false =>
    simp only [Bool.false_eq_true, if_false]
    exact keeps_j0 l ⟨a0, a1, a2, a3, l4⟩ p true (fun h => by simp at h)
  | true =>
    simp only [if_true]
    refine keeps_j0 l ⟨a0, a1, a2, a3, l4⟩ p _ (fun hd => ?_)
    have h2 := of_decide_eq_false hd
    unfold lightS at h
    split at h
    · simp at h
    · exact ⟨lgtS_few l h, by omega, by show l4.length ≤ 20; omega⟩


end Go.Proofs.Ytkedaiamhcgdkaa.Pure
