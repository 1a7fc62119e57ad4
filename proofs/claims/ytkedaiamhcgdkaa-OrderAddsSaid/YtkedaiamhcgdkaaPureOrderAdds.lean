/- Orders with one more, and without one, are what the reference says, or the error: lemmas on Light, At, Add, Drop, Same, Alike and the pure statement of OrderAdds. -/
import Derived.Test.YtkedaiamhcgdkaaMOrderAddsx6
set_option linter.unusedVariables false
set_option linter.unusedSimpArgs false
namespace Go.Proofs.Ytkedaiamhcgdkaa.Pure
open Go.RowKit Go.Proofs.Ytkedaiamhcgdkaa.MOrderAdds Go.Proofs.YtkedaiamhcgdkaaW.PrintWords Go.Proofs.YtkedaiamhcgdkaaW.PrintLast

theorem w64 {x : Int} (h0 : -9223372036854775808 ≤ x) (h1 : x ≤ 9223372036854775807) : wrap64 x = x := by
  unfold wrap64
  omega
theorem tmod_nn {a : Int} (h : 0 ≤ a) (b : Int) : Int.tmod a b = a % b := by
  rw [Int.tmod_eq_emod_of_nonneg h]
theorem tdiv_nn {a : Int} (h : 0 ≤ a) (b : Int) : Int.tdiv a b = a / b := by
  rw [Int.tdiv_eq_ediv_of_nonneg h]
theorem ev_succ {α : Type} {g : Nat → Option α} {r : α} (h : Ev (fun k => g (k + 1)) r) : Ev g r := by
  obtain ⟨K, h⟩ := h
  refine ⟨K + 1, fun n hn => ?_⟩
  obtain ⟨m, rfl⟩ : ∃ m, n = m + 1 := ⟨n - 1, by omega⟩
  exact h m (by omega)

theorem rdO_drop (xs : List S25) (i : Nat) (h : i < xs.length) : xs.drop i = rd_T25 xs (i : Int) :: xs.drop (i + 1) := by
  rw [List.drop_eq_getElem_cons h]
  simp [rd_T25, h]
theorem rdP_drop (xs : List S50) (i : Nat) (h : i < xs.length) : xs.drop i = rd_T50 xs (i : Int) :: xs.drop (i + 1) := by
  rw [List.drop_eq_getElem_cons h]
  simp [rd_T50, h]
/-- Every order has few spans. -/
def Few (l : List S25) : Prop := ∀ x ∈ l, x.f4.length ≤ 20
def lgtS : List S25 → Bool
  | [] => true
  | x :: t => if 20 < x.f4.length then false else lgtS t
theorem lgtS_few (l : List S25) (h : lgtS l = true) : Few l := by
  induction l with
  | nil => intro x hx; simp at hx
  | cons y t ih =>
    rw [lgtS] at h
    by_cases c : 20 < y.f4.length
    · rw [if_pos c] at h
      simp at h
    · rw [if_neg c] at h
      intro x hx
      rcases List.mem_cons.1 hx with rfl | hx
      · omega
      · exact ih h x hx
theorem light_l0 (l : List S25) (hl : l.length ≤ 1000000) (d : Nat) : ∀ i : Nat, i + d = l.length → Ev (fun k => haulierlaw28_Light.l0 k l (l.length : Int) (i : Int)) (lgtS (l.drop i)) := by
  induction d with
  | zero =>
    intro i hi
    rw [List.drop_of_length_le (by omega)]
    refine ev_succ ?_
    simp only [haulierlaw28_Light.l0, if_neg (show ¬ (i : Int) < (l.length : Int) by omega)]
    exact Ev.now _
  | succ d ih =>
    intro i hi
    have h := ih (i + 1) (by omega)
    rw [show (((i + 1 : Nat) : Int)) = (i : Int) + 1 by omega] at h
    rw [rdO_drop l i (by omega), lgtS]
    refine ev_succ ?_
    simp only [haulierlaw28_Light.l0, if_pos (show (i : Int) < (l.length : Int) by omega), if_pos (show (0 : Int) ≤ (i : Int) by omega), w64 (x := (i : Int) + 1) (by omega) (by omega)]
    by_cases c : 20 < (rd_T25 l (i : Int)).f4.length
    · simp only [if_pos c, if_pos (show ((rd_T25 l (i : Int)).f4.length : Int) > 20 by omega)]
      exact Ev.now _
    · simp only [if_neg c, if_neg (show ¬ ((rd_T25 l (i : Int)).f4.length : Int) > 20 by omega)]
      exact h
def lightS (l : List S25) : Bool := if l.length > 2010 then false else lgtS l
theorem light_f (l : List S25) : Ev (fun k => haulierlaw28_Light.f k l) (lightS l) := by
  unfold haulierlaw28_Light.f lightS
  by_cases c : l.length > 2010
  · simp only [if_pos c, if_pos (show (l.length : Int) > 2010 by omega)]
    exact Ev.now _
  · simp only [if_neg c, if_neg (show ¬ (l.length : Int) > 2010 by omega)]
    exact light_l0 l (by omega) l.length 0 (by omega)
/-! which one has an ID -/
def atS (l : List S25) (id : Int) : Int := order_at.ixF (fun x => decide (x.f0 = id)) l 0
theorem at_f (l : List S25) (id : Int) : order_at.f l id = some (atS l id) := rfl
theorem at_bound (p : S25 → Bool) (l : List S25) : ∀ i : Int, order_at.ixF p l i = -1 ∨ (i ≤ order_at.ixF p l i ∧ order_at.ixF p l i < i + l.length) := by
  induction l with
  | nil => intro i; exact .inl rfl
  | cons x t ih =>
    intro i
    rw [order_at.ixF]
    by_cases h : p x = true
    · rw [if_pos h]
      simp only [List.length_cons]
      omega
    · rw [if_neg h]
      have := ih (i + 1)
      simp only [List.length_cons]
      omega

theorem rat_l0 (l : List S25) (id : Int) (hl : l.length ≤ 1000000) (d : Nat) : ∀ i : Nat, i + d = l.length → Ev (fun k => haulierref28_At.l0 k l id (i : Int)) (order_at.ixF (fun x => decide (x.f0 = id)) (l.drop i) (i : Int)) := by
  induction d with
  | zero =>
    intro i hi
    rw [List.drop_of_length_le (by omega)]
    refine ev_succ ?_
    simp only [haulierref28_At.l0, if_neg (show ¬ (i : Int) < (l.length : Int) by omega)]
    exact Ev.now _
  | succ d ih =>
    intro i hi
    have h := ih (i + 1) (by omega)
    rw [show (((i + 1 : Nat) : Int)) = (i : Int) + 1 by omega] at h
    rw [rdO_drop l i (by omega), order_at.ixF]
    refine ev_succ ?_
    simp only [haulierref28_At.l0, if_pos (show (i : Int) < (l.length : Int) by omega), if_pos (show (0 : Int) ≤ (i : Int) by omega), w64 (x := (i : Int) + 1) (by omega) (by omega), decide_eq_true_eq]
    by_cases c : (rd_T25 l (i : Int)).f0 = id
    · simp only [if_pos c]
      exact Ev.now _
    · simp only [if_neg c]
      exact h
theorem rat_f (l : List S25) (id : Int) (hl : l.length ≤ 1000000) : Ev (fun k => haulierref28_At.f k l id) (atS l id) := rat_l0 l id hl l.length 0 (by omega)

theorem few_drop {l : List S25} (h : Few l) (i : Nat) : Few (l.drop i) := fun x hx => h x (List.mem_of_mem_drop hx)
theorem few_rd {l : List S25} (h : Few l) (i : Nat) (hi : i < l.length) : (rd_T25 l (i : Int)).f4.length ≤ 20 := by
  refine h _ ?_
  have := List.mem_of_mem_drop (l := l) (i := i) (a := rd_T25 l (i : Int)) (by rw [rdO_drop l i hi]; exact List.mem_cons_self)
  exact this

/-! the same -/
theorem same50_l0 (a : List S50) (ha : a.length ≤ 1000000) (d : Nat) : ∀ i : Nat, i + d = a.length → Ev (fun k => haulierref03_Same.l0 k a a (i : Int)) true := by
  induction d with
  | zero =>
    intro i hi
    refine ev_succ ?_
    simp only [haulierref03_Same.l0, if_neg (show ¬ (i : Int) < (a.length : Int) by omega)]
    exact Ev.now _
  | succ d ih =>
    intro i hi
    have h := ih (i + 1) (by omega)
    rw [show (((i + 1 : Nat) : Int)) = (i : Int) + 1 by omega] at h
    refine ev_succ ?_
    simp only [haulierref03_Same.l0, if_pos (show (i : Int) < (a.length : Int) by omega), if_pos (show (0 : Int) ≤ (i : Int) by omega), w64 (x := (i : Int) + 1) (by omega) (by omega), beq_self_eq_true, Bool.not_true, Bool.or_self, Bool.false_eq_true, if_false]
    exact h
theorem same50_f (a : List S50) (ha : a.length ≤ 1000000) : Ev (fun k => haulierref03_Same.f k a a) true := by
  unfold haulierref03_Same.f
  simp only [if_true]
  exact same50_l0 a ha a.length 0 (by omega)
theorem rsame_f (x : S25) (hx : x.f4.length ≤ 1000000) : Ev (fun k => haulierref28_Same.f k x.f0 x.f1 x.f2 x.f3 x.f4 x.f0 x.f1 x.f2 x.f3 x.f4) true := by
  unfold haulierref28_Same.f
  simp only [if_true]
  exact Ev.bind (same50_f x.f4 hx) (Ev.now _)

theorem alike_l0 (l : List S25) (hl : l.length ≤ 1000000) (hf : Few l) (d : Nat) : ∀ i : Nat, i + d = l.length → Ev (fun k => haulierref28_Alike.l0 k l l (i : Int)) true := by
  induction d with
  | zero =>
    intro i hi
    refine ev_succ ?_
    simp only [haulierref28_Alike.l0, if_neg (show ¬ (i : Int) < (l.length : Int) by omega)]
    exact Ev.now _
  | succ d ih =>
    intro i hi
    have h := ih (i + 1) (by omega)
    rw [show (((i + 1 : Nat) : Int)) = (i : Int) + 1 by omega] at h
    refine ev_succ ?_
    simp only [haulierref28_Alike.l0, if_pos (show (i : Int) < (l.length : Int) by omega), if_pos (show (0 : Int) ≤ (i : Int) by omega), w64 (x := (i : Int) + 1) (by omega) (by omega)]
    refine Ev.bind (rsame_f (rd_T25 l (i : Int)) (by have := few_rd hf i (by omega); omega)) ?_
    simp only [if_true]
    exact h
theorem alike_f (l : List S25) (hl : l.length ≤ 1000000) (hf : Few l) : Ev (fun k => haulierref28_Alike.f k l l) true := by
  unfold haulierref28_Alike.f
  simp only [if_true]
  exact alike_l0 l hl hf l.length 0 (by omega)

/-! one more -/
def insS (o : S25) : List S25 → List S25
  | [] => [o]
  | x :: t => if o.f0 < x.f0 then o :: x :: t else x :: insS o t
def addS (l : List S25) (o : S25) : List S25 × Int := if 0 ≤ atS l o.f0 then ([], 11) else if 2000 ≤ l.length then ([], 12) else (insS o l, 0)
theorem own_f (x : S25) (h : x.f4.length ≤ 20) : order_own.f x.f0 x.f1 x.f2 x.f3 x.f4 = some (x.f0, x.f1, x.f2, x.f3, x.f4) := by
  show ((if x.f4.length < 8796093022208 then some x.f4 else none : Option (List S50)).bind fun t => some (x.f0, x.f1, x.f2, x.f3, t)) = _
  rw [if_pos (show x.f4.length < 8796093022208 by omega)]
  rfl
theorem ownAll_f (l : List S25) (h : Few l) : order_Add.ownAll l = some l := by
  induction l with
  | nil => rfl
  | cons x t ih => rw [order_Add.ownAll, own_f x (h x List.mem_cons_self), Option.bind_some, ih (fun y hy => h y (List.mem_cons_of_mem _ hy))]; rfl
theorem ix_ins (o : S25) (l : List S25) : ∀ i : Int, 0 ≤ i → (order_Add.ixF (fun x => decide (o.f0 < x.f0)) l i = -1 ∧ insS o l = l ++ [o]) ∨
    (∃ m : Nat, m < l.length ∧ order_Add.ixF (fun x => decide (o.f0 < x.f0)) l i = i + (m : Int) ∧ insS o l = l.take m ++ ([o] ++ l.drop m)) := by
  induction l with
  | nil => intro i _; exact .inl ⟨rfl, rfl⟩
  | cons x t ih =>
    intro i hi
    rw [order_Add.ixF, insS]
    by_cases c : o.f0 < x.f0
    · right
      refine ⟨0, by simp, ?_, ?_⟩
      · simp [c]
      · simp [c]
    · rw [if_neg (by simpa using c), if_neg c]
      rcases ih (i + 1) (by omega) with ⟨h1, h2⟩ | ⟨m, hm, h1, h2⟩
      · left
        exact ⟨h1, by rw [h2]; rfl⟩
      · right
        refine ⟨m + 1, by simp; omega, by rw [h1]; omega, by rw [h2]; rfl⟩
theorem mid_ins (o : S25) (l : List S25) : order_Add.mid l o (if order_Add.ixF (fun x => decide (o.f0 < x.f0)) l 0 < 0 then l.length else (order_Add.ixF (fun x => decide (o.f0 < x.f0)) l 0).toNat) = insS o l := by
  unfold order_Add.mid
  rcases ix_ins o l 0 (Int.le_refl _) with ⟨h1, h2⟩ | ⟨m, hm, h1, h2⟩
  · rw [h1, h2, if_pos (by omega)]
    simp
  · rw [h1, h2, if_neg (by omega), show ((0 : Int) + (m : Int)).toNat = m by omega]
theorem few_ins {o : S25} {l : List S25} (h : Few l) (ho : o.f4.length ≤ 20) : Few (insS o l) := by
  induction l with
  | nil =>
    intro x hx
    obtain rfl := List.mem_singleton.1 hx
    exact ho
  | cons y t ih =>
    rw [insS]
    split
    · intro x hx
      rcases List.mem_cons.1 hx with rfl | hx
      · exact ho
      · exact h x hx
    · intro x hx
      rcases List.mem_cons.1 hx with rfl | hx
      · exact h _ List.mem_cons_self
      · exact ih (fun z hz => h z (List.mem_cons_of_mem _ hz)) x hx
theorem ins_len (o : S25) (l : List S25) : (insS o l).length = l.length + 1 := by
  induction l with
  | nil => rfl
  | cons y t ih =>
    rw [insS]
    split
    · rfl
    · simp [ih]
theorem add_f (l : List S25) (o : S25) (h : Few l) (ho : o.f4.length ≤ 20) : order_Add.f l o.f0 o.f1 o.f2 o.f3 o.f4 = some (addS l o) := by
  unfold order_Add.f addS
  rw [at_f, Option.bind_some]
  by_cases c : 0 ≤ atS l o.f0
  · rw [if_pos c, if_pos (show atS l o.f0 ≥ 0 from c)]
  rw [if_neg c, if_neg (show ¬ atS l o.f0 ≥ 0 from c)]
  by_cases c2 : 2000 ≤ l.length
  · rw [if_pos c2, if_pos c2]
  rw [if_neg c2, if_neg c2, mid_ins o l, ownAll_f _ (few_ins h ho)]
  rfl

/-! one less -/
def remS (t : Int) : List S25 → Int → List S25
  | [], _ => []
  | x :: u, i => if i = t then remS t u (i + 1) else x :: remS t u (i + 1)
theorem few_rem {t : Int} {l : List S25} (h : Few l) : ∀ i : Int, Few (remS t l i) := by
  induction l with
  | nil => intro i x hx; simp [remS] at hx
  | cons y u ih =>
    intro i
    have h2 : Few u := fun z hz => h z (List.mem_cons_of_mem _ hz)
    rw [remS]
    split
    · exact ih h2 _
    · intro x hx
      rcases List.mem_cons.1 hx with rfl | hx
      · exact h _ List.mem_cons_self
      · exact ih h2 _ x hx
theorem rem_len {t : Int} {l : List S25} : ∀ i : Int, (remS t l i).length ≤ l.length := by
  induction l with
  | nil => intro i; simp [remS]
  | cons y u ih =>
    intro i
    rw [remS]
    have := ih (i + 1)
    split
    · simp only [List.length_cons]; omega
    · simp only [List.length_cons]; omega
theorem drop_l0 (l : List S25) (t : Int) (hf : Few l) (hl : l.length ≤ 1000000) (d : Nat) : ∀ (i : Nat) (out : List S25), i + d = l.length → out.length ≤ i → Ev (fun k => order_Drop.l0 k t out l (l.length : Int) (i : Int)) (out ++ remS t (l.drop i) (i : Int), 0) := by
  induction d with
  | zero =>
    intro i out hi ho
    rw [List.drop_of_length_le (by omega), remS, List.append_nil]
    refine ev_succ ?_
    simp only [order_Drop.l0, if_neg (show ¬ (i : Int) < (l.length : Int) by omega)]
    exact Ev.now _
  | succ d ih =>
    intro i out hi ho
    rw [rdO_drop l i (by omega), remS]
    refine ev_succ ?_
    simp only [order_Drop.l0, if_pos (show (i : Int) < (l.length : Int) by omega), if_pos (show (0 : Int) ≤ (i : Int) by omega), w64 (x := (i : Int) + 1) (by omega) (by omega)]
    by_cases c : (i : Int) = t
    · simp only [if_pos c]
      have h := ih (i + 1) out (by omega) (by omega)
      rw [show (((i + 1 : Nat) : Int)) = (i : Int) + 1 by omega] at h
      exact h
    · simp only [if_neg c, own_f (rd_T25 l (i : Int)) (few_rd hf i (by omega)), Option.bind_some, if_pos (show out.length < 2513169434916 by omega)]
      have h := ih (i + 1) (out ++ [rd_T25 l (i : Int)]) (by omega) (by simp; omega)
      rw [show (((i + 1 : Nat) : Int)) = (i : Int) + 1 by omega] at h
      simpa only [List.append_assoc, List.singleton_append] using h
def dropS (l : List S25) (id : Int) : List S25 × Int := if atS l id < 0 then ([], 13) else (remS (atS l id) l 0, 0)
theorem drop_f (l : List S25) (id : Int) (hf : Few l) (hl : l.length ≤ 1000000) : Ev (fun k => order_Drop.f k l id) (dropS l id) := by
  unfold order_Drop.f dropS
  simp only [at_f, Option.bind_some]
  by_cases c : atS l id < 0
  · simp only [if_pos c]
    exact Ev.now _
  · simp only [if_neg c]
    exact drop_l0 l _ hf hl l.length 0 [] (by omega) (by simp)

theorem radd_done (l : List S25) (o : S25) (hl : l.length ≤ 1000000) (d : Nat) : ∀ (i : Nat) (out : List S25), i + d = l.length → out.length ≤ i + 1 → Ev (fun k => haulierref28_Add.l0 k l out true (i : Int) o.f0 o.f1 o.f2 o.f3 o.f4) (out ++ l.drop i, 0) := by
  induction d with
  | zero =>
    intro i out hi ho
    rw [List.drop_of_length_le (by omega), List.append_nil]
    refine ev_succ ?_
    simp only [haulierref28_Add.l0, if_neg (show ¬ (i : Int) < (l.length : Int) by omega), if_true]
    exact Ev.now _
  | succ d ih =>
    intro i out hi ho
    have h := ih (i + 1) (out ++ [rd_T25 l (i : Int)]) (by omega) (by simp; omega)
    rw [show (((i + 1 : Nat) : Int)) = (i : Int) + 1 by omega, List.append_assoc, List.singleton_append, ← rdO_drop l i (by omega)] at h
    refine ev_succ ?_
    simp only [haulierref28_Add.l0, if_pos (show (i : Int) < (l.length : Int) by omega), if_pos (show (0 : Int) ≤ (i : Int) by omega), w64 (x := (i : Int) + 1) (by omega) (by omega), if_true, if_pos (show out.length < 2513169434916 by omega)]
    exact h
theorem radd_l0 (l : List S25) (o : S25) (hl : l.length ≤ 1000000) (d : Nat) : ∀ (i : Nat) (out : List S25), i + d = l.length → out.length ≤ i → Ev (fun k => haulierref28_Add.l0 k l out false (i : Int) o.f0 o.f1 o.f2 o.f3 o.f4) (out ++ insS o (l.drop i), 0) := by
  induction d with
  | zero =>
    intro i out hi ho
    rw [List.drop_of_length_le (by omega), insS]
    refine ev_succ ?_
    simp only [haulierref28_Add.l0, if_neg (show ¬ (i : Int) < (l.length : Int) by omega), Bool.false_eq_true, if_false, if_pos (show out.length < 2513169434916 by omega)]
    exact Ev.now _
  | succ d ih =>
    intro i out hi ho
    rw [rdO_drop l i (by omega), insS]
    refine ev_succ ?_
    simp only [haulierref28_Add.l0, if_pos (show (i : Int) < (l.length : Int) by omega), if_pos (show (0 : Int) ≤ (i : Int) by omega), w64 (x := (i : Int) + 1) (by omega) (by omega), Bool.false_eq_true, if_false, if_pos (show out.length < 2513169434916 by omega)]
    by_cases c : o.f0 < (rd_T25 l (i : Int)).f0
    · simp only [if_pos c, if_pos (show (rd_T25 l (i : Int)).f0 > o.f0 from c), Option.bind_some, List.length_append, List.length_singleton, if_pos (show out.length + 1 < 2513169434916 by omega)]
      have h := radd_done l o hl d (i + 1) (out ++ [o] ++ [rd_T25 l (i : Int)]) (by omega) (by simp; omega)
      rw [show (((i + 1 : Nat) : Int)) = (i : Int) + 1 by omega] at h
      simpa only [List.append_assoc, List.singleton_append, List.cons_append, List.nil_append] using h
    · simp only [if_neg c, if_neg (show ¬ (rd_T25 l (i : Int)).f0 > o.f0 from c)]
      have h := ih (i + 1) (out ++ [rd_T25 l (i : Int)]) (by omega) (by simp; omega)
      rw [show (((i + 1 : Nat) : Int)) = (i : Int) + 1 by omega] at h
      simpa only [List.append_assoc, List.singleton_append] using h
theorem radd_f (l : List S25) (o : S25) (hl : l.length ≤ 1000000) : Ev (fun k => haulierref28_Add.f k l o.f0 o.f1 o.f2 o.f3 o.f4) (addS l o) := by
  unfold haulierref28_Add.f addS
  refine Ev.bind (rat_f l o.f0 hl) ?_
  by_cases c : 0 ≤ atS l o.f0
  · simp only [if_pos c, if_pos (show atS l o.f0 ≥ 0 from c)]
    exact Ev.now _
  simp only [if_neg c, if_neg (show ¬ atS l o.f0 ≥ 0 from c)]
  by_cases c2 : 2000 ≤ l.length
  · simp only [if_pos c2, if_pos (show (l.length : Int) ≥ 2000 by omega)]
    exact Ev.now _
  simp only [if_neg c2, if_neg (show ¬ (l.length : Int) ≥ 2000 by omega)]
  exact radd_l0 l o hl l.length 0 [] (by omega) (by simp)
theorem rdrop_l0 (l : List S25) (t : Int) (hl : l.length ≤ 1000000) (d : Nat) : ∀ (i : Nat) (out : List S25), i + d = l.length → out.length ≤ i → Ev (fun k => haulierref28_Drop.l0 k l t out (i : Int)) (out ++ remS t (l.drop i) (i : Int), 0) := by
  induction d with
  | zero =>
    intro i out hi ho
    rw [List.drop_of_length_le (by omega), remS, List.append_nil]
    refine ev_succ ?_
    simp only [haulierref28_Drop.l0, if_neg (show ¬ (i : Int) < (l.length : Int) by omega)]
    exact Ev.now _
  | succ d ih =>
    intro i out hi ho
    rw [rdO_drop l i (by omega), remS]
    refine ev_succ ?_
    simp only [haulierref28_Drop.l0, if_pos (show (i : Int) < (l.length : Int) by omega), if_pos (show (0 : Int) ≤ (i : Int) by omega), w64 (x := (i : Int) + 1) (by omega) (by omega)]
    by_cases c : (i : Int) = t
    · simp only [if_pos c]
      have h := ih (i + 1) out (by omega) (by omega)
      rw [show (((i + 1 : Nat) : Int)) = (i : Int) + 1 by omega] at h
      exact h
    · simp only [if_neg c, if_pos (show out.length < 2513169434916 by omega)]
      have h := ih (i + 1) (out ++ [rd_T25 l (i : Int)]) (by omega) (by simp; omega)
      rw [show (((i + 1 : Nat) : Int)) = (i : Int) + 1 by omega] at h
      simpa only [List.append_assoc, List.singleton_append] using h
theorem rdrop_f (l : List S25) (id : Int) (hl : l.length ≤ 1000000) : Ev (fun k => haulierref28_Drop.f k l id) (dropS l id) := by
  unfold haulierref28_Drop.f dropS
  refine Ev.bind (rat_f l id hl) ?_
  by_cases c : atS l id < 0
  · simp only [if_pos c]
    exact Ev.now _
  · simp only [if_neg c]
    exact rdrop_l0 l _ hl l.length 0 [] (by omega) (by simp)

theorem oalive_f : haulierlaw28_alive.f = some true := by decide

theorem few_addS {l : List S25} {o : S25} (h : Few l) (ho : o.f4.length ≤ 20) : Few (addS l o).1 := by
  unfold addS
  split
  · intro x hx; simp at hx
  split
  · intro x hx; simp at hx
  exact few_ins h ho
theorem addS_len (l : List S25) (o : S25) : (addS l o).1.length ≤ l.length + 1 := by
  unfold addS
  split
  · simp
  split
  · simp
  simp only [ins_len]; omega
theorem few_dropS {l : List S25} {id : Int} (h : Few l) : Few (dropS l id).1 := by
  unfold dropS
  split
  · intro x hx; simp at hx
  exact few_rem h _
theorem dropS_len (l : List S25) (id : Int) : (dropS l id).1.length ≤ l.length := by
  unfold dropS
  split
  · simp
  exact rem_len _
theorem adds_j (l : List S25) (o : S25) (id : Int) (b : Bool) (hb : b = false → Few l ∧ l.length ≤ 2010 ∧ o.f4.length ≤ 20) : Ev (fun k => haulierlaw28_OrderAdds.j0 k l id b o.f0 o.f1 o.f2 o.f3 o.f4) true := by
  refine ev_succ ?_
  simp only [haulierlaw28_OrderAdds.j0, oalive_f, Option.bind_some]
  cases b with
  | true =>
    simp only [if_true]
    exact Ev.now _
  | false =>
    obtain ⟨hf, hl, ho⟩ := hb rfl
    simp only [Bool.false_eq_true, if_false, add_f l o hf ho, Option.bind_some]
    have h1 := addS_len l o
    have h2 := dropS_len l id
    refine Ev.bind (radd_f l o (by omega)) ?_
    refine Ev.bind (drop_f l id hf (by omega)) ?_
    refine Ev.bind (rdrop_f l id (by omega)) ?_
    refine Ev.bind (alike_f _ (by omega) (few_addS hf ho)) ?_
    simp only [if_true]
    refine Ev.bind (alike_f _ (by omega) (few_dropS hf)) ?_
    simp only [if_true]
    exact Ev.now _
theorem OrderAdds : haulierlaw28_OrderAdds.Pure := by
  intro l a0 a1 a2 a3 l4 id
  intros
  refine Ev.rounds ?_
  unfold haulierlaw28_OrderAdds.f
  refine Ev.bind (light_f l) ?_
  cases h : lightS l with
  | false =>
    simp only [Bool.false_eq_true, if_false]
    exact adds_j l ⟨a0, a1, a2, a3, l4⟩ id true (fun h => by simp at h)
  | true =>
    simp only [if_true]
    refine adds_j l ⟨a0, a1, a2, a3, l4⟩ id _ (fun hd => ?_)
    have h2 := of_decide_eq_false hd
    unfold lightS at h
    split at h
    · simp at h
    · exact ⟨lgtS_few l h, by omega, by show l4.length ≤ 20; omega⟩


end Go.Proofs.Ytkedaiamhcgdkaa.Pure
