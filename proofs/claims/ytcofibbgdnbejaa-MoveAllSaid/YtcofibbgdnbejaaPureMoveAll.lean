/- The moves of any routes, and the one at any place, are what the reference finds by trying all sixes of numbers: lemmas on the order of the moves, and the pure statement of MoveAll. -/
import Derived.Test.YtcofibbgdnbejaaMMoveAllx10
import Derived.Test.YtcofibbgdnbejaaMvB
import Derived.Test.YtcofibbgdnbejaaMwAll
set_option linter.unusedVariables false
set_option linter.unusedSimpArgs false
namespace Go.Proofs.Ytcofibbgdnbejaa.Pure
open Go.RowKit Go.Proofs.Ytcofibbgdnbejaa.MMoveAll Go.Proofs.YtcofibbgdnbejaaW.PrintWords Go.Proofs.YtcofibbgdnbejaaW.PrintLast
theorem w64 {x : Int} (h0 : -9223372036854775808 ≤ x) (h1 : x ≤ 9223372036854775807) : wrap64 x = x := by
  unfold wrap64
  omega
theorem ev_succ {α : Type} {g : Nat → Option α} {r : α} (h : Ev (fun k => g (k + 1)) r) : Ev g r := by
  obtain ⟨K, h⟩ := h
  refine ⟨K + 1, fun n hn => ?_⟩
  obtain ⟨m, rfl⟩ : ∃ m, n = m + 1 := ⟨n - 1, by omega⟩
  exact h m (by omega)
def IR (x : Int) : Prop := -9223372036854775808 ≤ x ∧ x ≤ 9223372036854775807
theorem ir_of {x : Int} (h : (Lit.int .i64 x).wf = true) : IR x := by simpa [IR, Lit.wf, IntKind.min, IntKind.max, IntKind.signed, IntKind.bits] using h
theorem rd_drop (xs : List Int) (i : Nat) (h : i < xs.length) : xs.drop i = rd xs (i : Int) :: xs.drop (i + 1) := by
  rw [List.drop_eq_getElem_cons h]
  simp [rd, h]
/-! routes: Light, the same routes, move.own, move.Apply, alive -/
open Go.Proofs.Ytcofibbgdnbejaa.Mv2 Go.Proofs.Ytcofibbgdnbejaa.Mv8 Go.Proofs.Ytcofibbgdnbejaa.Mv13 Go.Proofs.Ytcofibbgdnbejaa.Mv14
theorem rd35_drop (xs : List S35) (i : Nat) (h : i < xs.length) : xs.drop i = rd_T35 xs (i : Int) :: xs.drop (i + 1) := by
  rw [List.drop_eq_getElem_cons h]
  simp [rd_T35, h]
theorem rd35_mem (xs : List S35) (i : Nat) (h : i < xs.length) : rd_T35 xs (i : Int) ∈ xs := by
  simp [rd_T35, h]
theorem light_l0 (s : Int) (l : List S35) (hl : l.length ≤ 1000000) (d : Nat) : ∀ i : Nat, i + d = l.length → Ev (fun k => haulierlaw36_Light.l0 k s l (l.length : Int) (i : Int)) ((l.drop i).all fun x => decide ((x.f1.length : Int) ≤ s)) := by
  induction d with
  | zero =>
    intro i hi
    refine ev_succ ?_
    simp only [haulierlaw36_Light.l0, if_neg (show ¬ (i : Int) < (l.length : Int) by omega)]
    rw [List.drop_of_length_le (by omega)]
    exact Ev.now _
  | succ d ih =>
    intro i hi
    have h := ih (i + 1) (by omega)
    rw [show (((i + 1 : Nat) : Int)) = (i : Int) + 1 by omega] at h
    refine ev_succ ?_
    simp only [haulierlaw36_Light.l0, if_pos (show (i : Int) < (l.length : Int) by omega), if_pos (show (0 : Int) ≤ (i : Int) by omega), w64 (x := (i : Int) + 1) (by omega) (by omega)]
    rw [rd35_drop l i (by omega), List.all_cons]
    by_cases c : ((rd_T35 l (i : Int)).f1.length : Int) > s
    · simp only [if_pos c]
      rw [decide_eq_false (by omega : ¬ ((rd_T35 l (i : Int)).f1.length : Int) ≤ s)]
      exact Ev.now _
    · simp only [if_neg c]
      rw [decide_eq_true (by omega : ((rd_T35 l (i : Int)).f1.length : Int) ≤ s), Bool.true_and]
      exact h
def lightS (l : List S35) (a s : Int) : Bool := decide ((l.length : Int) ≤ a) && l.all fun x => decide ((x.f1.length : Int) ≤ s)
theorem light_f (l : List S35) (a s : Int) (ha : a ≤ 1000000) : Ev (fun k => haulierlaw36_Light.f k l a s) (lightS l a s) := by
  unfold haulierlaw36_Light.f lightS
  by_cases c : (l.length : Int) > a
  · simp only [if_pos c]
    rw [decide_eq_false (by omega : ¬ (l.length : Int) ≤ a)]
    exact Ev.now _
  · simp only [if_neg c]
    rw [decide_eq_true (by omega : (l.length : Int) ≤ a), Bool.true_and]
    exact light_l0 s l (by omega) l.length 0 (by omega)
theorem light_yes {l : List S35} {a s : Int} (h : lightS l a s = true) : (l.length : Int) ≤ a ∧ ∀ x ∈ l, (x.f1.length : Int) ≤ s := by
  unfold lightS at h
  rw [Bool.and_eq_true, List.all_eq_true] at h
  exact ⟨of_decide_eq_true h.1, fun x hx => of_decide_eq_true (h.2 x hx)⟩
theorem own_l0 (l : List S35) (hl : l.length ≤ 1000000) (hs : ∀ x ∈ l, x.f1.length ≤ 1000000) (d : Nat) : ∀ (i : Nat) (acc : List S35), i + d = l.length → acc.length = i → Ev (fun k => move_own.l0 k acc l (l.length : Int) (i : Int)) (acc ++ l.drop i) := by
  induction d with
  | zero =>
    intro i acc hi ha
    refine ev_succ ?_
    simp only [move_own.l0, if_neg (show ¬ (i : Int) < (l.length : Int) by omega)]
    rw [List.drop_of_length_le (by omega), List.append_nil]
    exact Ev.now _
  | succ d ih =>
    intro i acc hi ha
    have h := ih (i + 1) (acc ++ [rd_T35 l (i : Int)]) (by omega) (by simp; omega)
    rw [show (((i + 1 : Nat) : Int)) = (i : Int) + 1 by omega] at h
    rw [rd35_drop l i (by omega)]
    rw [List.append_assoc, List.singleton_append] at h
    refine ev_succ ?_
    have hx := hs _ (rd35_mem l i (by omega))
    simp only [move_own.l0, if_pos (show (i : Int) < (l.length : Int) by omega), if_pos (show (0 : Int) ≤ (i : Int) by omega), w64 (x := (i : Int) + 1) (by omega) (by omega), slices_Clone_int_int.f, if_pos (show (rd_T35 l (i : Int)).f1.length < 1099511627776 by omega), Option.bind_some, if_pos (show acc.length < 4398046511104 by omega)]
    exact h
theorem own_f (l : List S35) (hl : l.length ≤ 1000000) (hs : ∀ x ∈ l, x.f1.length ≤ 1000000) : Ev (fun k => move_own.f k l) l := by
  unfold move_own.f
  exact own_l0 l hl hs l.length 0 [] (by omega) rfl
abbrev tS := move_Apply.tS
abbrev tB := move_Apply.tB
theorem apply_f (l : List S35) (hl : l.length ≤ 1000000) (hs : ∀ x ∈ l, x.f1.length ≤ 1000000) (k a i b j n : Int) : Ev (fun q => move_Apply.f q l k a i b j n) (ap tB (l.map tS) k a i b j n) := by
  unfold move_Apply.f
  refine Ev.bind (own_f l hl hs) ?_
  rw [if_pos ⟨rfl, by rw [List.all_eq_true]; exact fun x hx => decide_eq_true (hs x hx)⟩]
  exact Ev.now _
theorem map_BS (l : List S35) : (l.map tS).map tB = l := by
  rw [List.map_map, show (tB ∘ tS) = id from rfl, List.map_id]
theorem map_SB (rs : List Rt) : (rs.map tB).map tS = rs := by
  rw [List.map_map, show (tS ∘ tB) = id from rfl, List.map_id]
theorem same_l0 (a b : List Int) (hl : a.length = b.length) (ha : a.length ≤ 1000000) (d : Nat) : ∀ i : Nat, i + d = a.length → Ev (fun k => haulierref35_same.l0 k a b (i : Int)) (decide (a.drop i = b.drop i)) := by
  induction d with
  | zero =>
    intro i hi
    refine ev_succ ?_
    simp only [haulierref35_same.l0, if_neg (show ¬ (i : Int) < (a.length : Int) by omega)]
    rw [List.drop_of_length_le (by omega), List.drop_of_length_le (by omega)]
    exact Ev.now _
  | succ d ih =>
    intro i hi
    have h := ih (i + 1) (by omega)
    rw [show (((i + 1 : Nat) : Int)) = (i : Int) + 1 by omega] at h
    refine ev_succ ?_
    simp only [haulierref35_same.l0, if_pos (show (i : Int) < (a.length : Int) by omega), if_pos (show (i : Int) < (b.length : Int) by omega), if_pos (show (0 : Int) ≤ (i : Int) by omega), w64 (x := (i : Int) + 1) (by omega) (by omega)]
    rw [rd_drop a i (by omega), rd_drop b i (by omega)]
    by_cases c : rd a (i : Int) = rd b (i : Int)
    · simp only [if_pos c]
      rw [show decide (rd a (i : Int) :: a.drop (i + 1) = rd b (i : Int) :: b.drop (i + 1)) = decide (a.drop (i + 1) = b.drop (i + 1)) by simp [c]]
      exact h
    · simp only [if_neg c]
      rw [decide_eq_false (by simp [c])]
      exact Ev.now _
theorem same_f (a b : List Int) (ha : a.length ≤ 1000000) : Ev (fun k => haulierref35_same.f k a b) (decide (a = b)) := by
  unfold haulierref35_same.f
  by_cases c : (a.length : Int) = (b.length : Int)
  · simp only [if_pos c]
    exact same_l0 a b (by omega) ha a.length 0 (by omega)
  · simp only [if_neg c]
    rw [decide_eq_false (fun e => c (by rw [e]))]
    exact Ev.now _
theorem s35_ext (x y : S35) : x = y ↔ x.f0 = y.f0 ∧ x.f1 = y.f1 := by
  cases x
  cases y
  simp
theorem alike_l0 (a b : List S35) (hl : a.length = b.length) (ha : a.length ≤ 1000000) (hs : ∀ x ∈ a, x.f1.length ≤ 1000000) (d : Nat) : ∀ i : Nat, i + d = a.length → ∃ r, Ev (fun k => haulierref35_Alike.l0 k a b (i : Int)) r ∧ (r = true ↔ a.drop i = b.drop i) := by
  induction d with
  | zero =>
    intro i hi
    refine ⟨true, ev_succ ?_, ?_⟩
    · simp only [haulierref35_Alike.l0, if_neg (show ¬ (i : Int) < (a.length : Int) by omega)]
      exact Ev.now _
    · rw [List.drop_of_length_le (by omega), List.drop_of_length_le (by omega)]
      simp
  | succ d ih =>
    intro i hi
    obtain ⟨r, h, hr⟩ := ih (i + 1) (by omega)
    rw [show (((i + 1 : Nat) : Int)) = (i : Int) + 1 by omega] at h
    rw [rd35_drop a i (by omega), rd35_drop b i (by omega)]
    by_cases c : (rd_T35 a (i : Int)).f0 = (rd_T35 b (i : Int)).f0
    · by_cases c2 : (rd_T35 a (i : Int)).f1 = (rd_T35 b (i : Int)).f1
      · refine ⟨r, ev_succ ?_, ?_⟩
        · simp only [haulierref35_Alike.l0, if_pos (show (i : Int) < (a.length : Int) by omega), if_pos (show (i : Int) < (b.length : Int) by omega), if_pos (show (0 : Int) ≤ (i : Int) by omega), w64 (x := (i : Int) + 1) (by omega) (by omega), if_pos c]
          refine Ev.bind (same_f _ _ (hs _ (rd35_mem a i (by omega)))) ?_
          simp only [decide_eq_true c2, if_true]
          exact h
        · rw [hr, List.cons.injEq, s35_ext]
          simp [c, c2]
      · refine ⟨false, ev_succ ?_, ?_⟩
        · simp only [haulierref35_Alike.l0, if_pos (show (i : Int) < (a.length : Int) by omega), if_pos (show (i : Int) < (b.length : Int) by omega), if_pos (show (0 : Int) ≤ (i : Int) by omega), w64 (x := (i : Int) + 1) (by omega) (by omega), if_pos c]
          refine Ev.bind (same_f _ _ (hs _ (rd35_mem a i (by omega)))) ?_
          simp only [decide_eq_false c2, Bool.false_eq_true, if_false]
          exact Ev.now _
        · rw [List.cons.injEq, s35_ext]
          simp [c2]
    · refine ⟨false, ev_succ ?_, ?_⟩
      · simp only [haulierref35_Alike.l0, if_pos (show (i : Int) < (a.length : Int) by omega), if_pos (show (i : Int) < (b.length : Int) by omega), if_pos (show (0 : Int) ≤ (i : Int) by omega), if_neg c]
        exact Ev.now _
      · rw [List.cons.injEq, s35_ext]
        simp [c]
theorem alike_f (a b : List S35) (ha : a.length ≤ 1000000) (hs : ∀ x ∈ a, x.f1.length ≤ 1000000) : ∃ r, Ev (fun k => haulierref35_Alike.f k a b) r ∧ (r = true ↔ a = b) := by
  unfold haulierref35_Alike.f
  by_cases c : (a.length : Int) = (b.length : Int)
  · simp only [if_pos c]
    exact alike_l0 a b (by omega) ha hs a.length 0 (by omega)
  · simp only [if_neg c]
    exact ⟨false, Ev.now _, by simp; exact fun e => c (by rw [e])⟩
theorem alike_yes (a : List S35) (ha : a.length ≤ 1000000) (hs : ∀ x ∈ a, x.f1.length ≤ 1000000) : Ev (fun k => haulierref35_Alike.f k a a) true := by
  obtain ⟨r, h, hr⟩ := alike_f a a ha hs
  rw [hr.2 rfl] at h
  exact h
theorem alive_f : Ev (fun k => haulierlaw36_alive.f k) true := by
  unfold haulierlaw36_alive.f
  refine Ev.bind (apply_f _ (by simp) (by simp) 4 0 1 1 2 0) ?_
  rw [show ap tB ([(⟨1, [1, 2, 3]⟩ : S35), (⟨2, [4, 5]⟩ : S35)].map tS) 4 0 1 1 2 0 = ([(⟨1, [1]⟩ : S35), (⟨2, [4, 5, 2, 3]⟩ : S35)], true) from rfl]
  simp only [if_true]
  refine Ev.bind (alike_yes _ (by simp) (by simp)) ?_
  simp only [if_true]
  exact Ev.now _
/-! how long routes behind a move are -/
/-! the reference: with, cut, put and the four movers, in the words of routes -/
open Go.Proofs.Ytcofibbgdnbejaa.Mv1 Go.Proofs.Ytcofibbgdnbejaa.Mv3 Go.Proofs.Ytcofibbgdnbejaa.Mv5 Go.Proofs.Ytcofibbgdnbejaa.Mv6 Go.Proofs.Ytcofibbgdnbejaa.Mv7
theorem ev_ite {α : Type} {c : Prop} [Decidable c] {A B : Nat → Option α} {r : α} (h1 : c → Ev A r) (h2 : ¬ c → Ev B r) : Ev (fun q => if c then A q else B q) r := by
  by_cases h : c
  · simp only [if_pos h]
    exact h1 h
  · simp only [if_neg h]
    exact h2 h
theorem rdB (rs : List Rt) (a : Nat) : rd_T35 (rs.map tB) (a : Int) = ⟨tr rs a, st rs a⟩ := by
  unfold rd_T35 tr st
  rw [Int.toNat_natCast]
  by_cases h : a < rs.length
  · simp [h, tB, move_Apply.tB]
  · simp [List.getElem?_eq_none (show rs.length ≤ a by omega), z35]
theorem with_l0 (l : List S35) (hl : l.length ≤ 1000000) (a : Nat) (xs : List Int) (e : S35) (he : (⟨(rd_T35 l (a : Int)).f0, xs⟩ : S35) = e) (d : Nat) : ∀ (i : Nat) (acc : List S35), i + d = l.length → acc.length = i → Ev (fun k => haulierref36_with.l0 k l (a : Int) xs acc (i : Int)) (acc ++ (l.set a e).drop i) := by
  induction d with
  | zero =>
    intro i acc hi ha
    refine ev_succ ?_
    simp only [haulierref36_with.l0, if_neg (show ¬ (i : Int) < (l.length : Int) by omega)]
    rw [List.drop_of_length_le (by simp; omega), List.append_nil]
    exact Ev.now _
  | succ d ih =>
    intro i acc hi ha
    rw [rd35_drop (l.set a e) i (by simp; omega)]
    refine ev_succ ?_
    by_cases c : i = a
    · subst c
      have h := ih (i + 1) (acc ++ [e]) (by omega) (by simp; omega)
      rw [show (((i + 1 : Nat) : Int)) = (i : Int) + 1 by omega, List.append_assoc, List.singleton_append] at h
      rw [show rd_T35 (l.set i e) (i : Int) = e by simp [rd_T35, show i < l.length by omega]]
      simp only [haulierref36_with.l0, if_pos (show (i : Int) < (l.length : Int) by omega), if_pos (show (0 : Int) ≤ (i : Int) by omega), w64 (x := (i : Int) + 1) (by omega) (by omega), if_pos (show acc.length < 4398046511104 by omega), if_true, he]
      exact h
    · have h := ih (i + 1) (acc ++ [rd_T35 l (i : Int)]) (by omega) (by simp; omega)
      rw [show (((i + 1 : Nat) : Int)) = (i : Int) + 1 by omega, List.append_assoc, List.singleton_append] at h
      rw [show rd_T35 (l.set a e) (i : Int) = rd_T35 l (i : Int) by simp [rd_T35, List.getElem?_set_ne (show a ≠ i by omega)]]
      simp only [haulierref36_with.l0, if_pos (show (i : Int) < (l.length : Int) by omega), if_pos (show (0 : Int) ≤ (i : Int) by omega), w64 (x := (i : Int) + 1) (by omega) (by omega), if_pos (show acc.length < 4398046511104 by omega), if_neg (show ¬ (i : Int) = (a : Int) by omega)]
      exact h
theorem with_f (rs : List Rt) (hl : rs.length ≤ 1000000) (a : Nat) (xs : List Int) : Ev (fun k => haulierref36_with.f k (rs.map tB) (a : Int) xs) ((upd rs a xs).map tB) := by
  have h := with_l0 (rs.map tB) (by simpa using hl) a xs (tB (tr rs a, xs)) (by rw [rdB]; rfl) rs.length 0 [] (by simp) rfl
  unfold haulierref36_with.f
  rw [show (upd rs a xs).map tB = (rs.map tB).set a (tB (tr rs a, xs)) from List.map_set]
  exact h
theorem cut_l0 (l : List Int) (hl : l.length ≤ 1000000) (i n : Nat) (hi : i ≤ 1000000) (hn : n ≤ 1000000) (d : Nat) : ∀ (p : Nat) (acc : List Int), p + d = l.length → acc.length ≤ p → Ev (fun k => haulierref36_cut.l0 k l (i : Int) (n : Int) acc (p : Int)) (acc ++ ((l.take i).drop p ++ l.drop (max p (i + n)))) := by
  induction d with
  | zero =>
    intro p acc hp ha
    refine ev_succ ?_
    simp only [haulierref36_cut.l0, if_neg (show ¬ (p : Int) < (l.length : Int) by omega)]
    rw [List.drop_of_length_le (by simp; omega), List.drop_of_length_le (by omega), List.append_nil, List.append_nil]
    exact Ev.now _
  | succ d ih =>
    intro p acc hp ha
    refine ev_succ ?_
    simp only [haulierref36_cut.l0, if_pos (show (p : Int) < (l.length : Int) by omega), w64 (x := (p : Int) + 1) (by omega) (by omega), w64 (x := (i : Int) + (n : Int)) (by omega) (by omega), if_pos (show (0 : Int) ≤ (p : Int) by omega), if_pos (show acc.length < 17592186044416 by omega)]
    by_cases c1 : p < i
    · have h := ih (p + 1) (acc ++ [rd l (p : Int)]) (by omega) (by simp; omega)
      rw [show (((p + 1 : Nat) : Int)) = (p : Int) + 1 by omega, List.append_assoc, List.singleton_append, ← List.cons_append] at h
      rw [show (l.take i).drop p = rd l (p : Int) :: (l.take i).drop (p + 1) by
        rw [List.drop_eq_getElem_cons (by simp; omega)]
        simp [rd, show p < l.length by omega], show max p (i + n) = max (p + 1) (i + n) by omega]
      simp only [if_pos (show (p : Int) < (i : Int) by omega)]
      exact h
    · simp only [if_neg (show ¬ (p : Int) < (i : Int) by omega)]
      rw [List.drop_of_length_le (by simp; omega), List.nil_append]
      by_cases c2 : i + n ≤ p
      · have h := ih (p + 1) (acc ++ [rd l (p : Int)]) (by omega) (by simp; omega)
        rw [show (((p + 1 : Nat) : Int)) = (p : Int) + 1 by omega, List.append_assoc, List.singleton_append, List.drop_of_length_le (by simp; omega), List.nil_append, show max (p + 1) (i + n) = p + 1 by omega] at h
        rw [show max p (i + n) = p by omega, rd_drop l p (by omega)]
        simp only [if_pos (show (p : Int) ≥ (i : Int) + (n : Int) by omega)]
        exact h
      · have h := ih (p + 1) acc (by omega) (by omega)
        rw [show (((p + 1 : Nat) : Int)) = (p : Int) + 1 by omega, List.drop_of_length_le (by simp; omega), List.nil_append, show max (p + 1) (i + n) = max p (i + n) by omega] at h
        simp only [if_neg (show ¬ (p : Int) ≥ (i : Int) + (n : Int) by omega)]
        exact h
theorem cut_f (l : List Int) (hl : l.length ≤ 1000000) (i n : Nat) (hi : i ≤ 1000000) (hn : n ≤ 1000000) : Ev (fun k => haulierref36_cut.f k l (i : Int) (n : Int)) (rmv l i n) := by
  unfold haulierref36_cut.f rmv
  have h := cut_l0 l hl i n hi hn l.length 0 [] (by omega) (by simp)
  rw [List.nil_append, List.drop_zero, show max 0 (i + n) = i + n by omega] at h
  exact h
theorem put_f (xs more : List Int) (j : Nat) (hj : j ≤ xs.length) (hx : xs.length ≤ 1000000) (hm : more.length ≤ 1000000) : haulierref36_put.f xs (j : Int) more = some (ins xs j more) := by
  unfold haulierref36_put.f ins
  rw [if_pos (show (0 : Int) ≤ (j : Int) by omega), if_pos (show (j : Int) ≤ (xs.length : Int) by omega), Int.toNat_natCast, if_pos (by simp; omega), Option.bind_some, if_pos (by simp; omega), Option.bind_some, if_pos (by simp; omega), List.nil_append]
theorem rev_get (xs : List Int) (i j p : Nat) (hij : i ≤ j) (hj : j < xs.length) (hp : p < xs.length) : rd (revS xs i j) (p : Int) = if p < i then rd xs (p : Int) else if j < p then rd xs (p : Int) else rd xs ((j - (p - i) : Nat) : Int) := by
  have hl : (xs.take i).length = i := by simp; omega
  have hm : (((xs.drop i).take (j + 1 - i)).reverse).length = j + 1 - i := by simp; omega
  simp only [rd, Int.toNat_natCast]
  unfold revS
  simp only [List.getD_eq_getElem?_getD]
  by_cases c : p < i
  · rw [if_pos c, List.append_assoc, List.getElem?_append_left (by omega), List.getElem?_take_of_lt c]
  · rw [if_neg c]
    by_cases c2 : j < p
    · rw [if_pos c2, List.getElem?_append_right (by rw [List.length_append]; omega), List.length_append, hl, hm, List.getElem?_drop, show j + 1 + (p - (i + (j + 1 - i))) = p by omega]
    · rw [if_neg c2, List.getElem?_append_left (by rw [List.length_append]; omega), List.getElem?_append_right (by omega), hl, List.getElem?_reverse (by simp; omega), List.getElem?_take_of_lt (by simp; omega), List.getElem?_drop]
      congr 2
      simp
      omega
/-! the four movers of the reference, made and Apply -/
def resS (x : Bool × List Rt) : List S35 × Bool := if x.1 = true then (x.2.map tB, true) else ([], false)
theorem res_no (rs : List Rt) : resS (false, rs) = ([], false) := rfl
theorem res_yes (rs : List Rt) : resS (true, rs) = (rs.map tB, true) := rfl
theorem st_upd_len (rs : List Rt) (a b : Nat) (xs : List Int) (hs : ∀ j, (st rs j).length ≤ 100000) (hx : xs.length ≤ 300000) : (st (upd rs a xs) b).length ≤ 300000 := by
  by_cases h : a = b
  · subst h
    by_cases hl : a < rs.length
    · rw [upd_st _ _ _ hl]; exact hx
    · have e : upd rs a xs = rs := by unfold upd; rw [List.set_eq_of_length_le (by omega)]
      rw [e]
      have := hs a
      omega
  · rw [upd_st_ne _ _ _ _ h]
    have := hs b
    omega
theorem rmv_len (xs : List Int) (i n : Nat) : (rmv xs i n).length ≤ xs.length := by
  unfold rmv
  simp
  omega
theorem tk_len (xs : List Int) (i n : Nat) : (tkS xs i n).length ≤ xs.length := by
  unfold tkS
  simp
  omega
theorem chain_f (rs : List Rt) (hl : rs.length ≤ 1000000) (hs : ∀ j, (st rs j).length ≤ 100000) (k a i b j n : Int) (p : Nat) (hp1 : 1 ≤ p) (hp3 : p ≤ 3) (ha : 0 ≤ a) (hal : a < (rs.length : Int)) (hb : 0 ≤ b) (hbl : b < (rs.length : Int)) : Ev (fun q => haulierref36_chain.f q (rs.map tB) k a i b j n (p : Int)) (resS (chS rs a b i j (p : Int))) := by
  obtain ⟨a, rfl⟩ := Int.eq_ofNat_of_zero_le ha
  obtain ⟨b, rfl⟩ := Int.eq_ofNat_of_zero_le hb
  have hxs := hs a
  unfold haulierref36_chain.f
  simp only [List.length_map, rdB, w64 (x := ((st rs a).length : Int) - (p : Int)) (by omega) (by omega)]
  by_cases c1 : 0 ≤ i ∧ i + (p : Int) ≤ ((st rs a).length : Int)
  · obtain ⟨i, rfl⟩ := Int.eq_ofNat_of_zero_le c1.1
    simp only [w64 (x := (i : Int) + (p : Int)) (by omega) (by omega)]
    have tail : Ev (fun q => (haulierref36_cut.f q (st rs a) (i : Int) (p : Int)).bind fun t222 => (haulierref36_with.f q (rs.map tB) (a : Int) t222).bind fun t225 => if 0 ≤ (b : Int) then (if (b : Int) < (t225.length : Int) then (if j < 0 then (some (([] : List S35), false)) else (if j > (((rd_T35 t225 (b : Int)).f1).length : Int) then (some (([] : List S35), false)) else ((haulierref36_put.f ((rd_T35 t225 (b : Int)).f1) j (((st rs a).take ((i : Int) + (p : Int)).toNat).drop (i : Int).toNat)).bind fun t229 => (haulierref36_with.f q t225 (b : Int) t229).bind fun t232 => some (t232, true)))) else none) else none) (resS (chS rs (a : Int) (b : Int) (i : Int) j (p : Int))) := by
      refine Ev.bind (cut_f (st rs a) (by omega) i p (by omega) (by omega)) ?_
      refine Ev.bind (with_f rs hl a _) ?_
      have hr := rmv_len (st rs a) i p
      have hxb := st_upd_len rs a b (rmv (st rs a) i p) hs (by omega)
      simp only [List.length_map, upd_len, rdB, if_pos hb, if_pos hbl]
      rw [show ((i : Int) + (p : Int)).toNat = i + p by omega, Int.toNat_natCast, show ((st rs a).take (i + p)).drop i = tkS (st rs a) i p from rfl]
      by_cases c2 : 0 ≤ j ∧ j ≤ ((st (upd rs a (rmv (st rs a) i p)) b).length : Int)
      · obtain ⟨j, rfl⟩ := Int.eq_ofNat_of_zero_le c2.1
        rw [ch_mk (rs := rs) (a := (a : Int)) (b := (b : Int)) (i := (i : Int)) (j := (j : Int)) (n := (p : Int)) ⟨c1.1, c1.2, c2.1, c2.2⟩, res_yes]
        simp only [Int.toNat_natCast]
        have ht := tk_len (st rs a) i p
        refine ev_ite (fun _ => by exfalso; omega) (fun _ => ?_)
        refine ev_ite (fun _ => by exfalso; omega) (fun _ => ?_)
        simp only [put_f _ _ j (show j ≤ (st (upd rs a (rmv (st rs a) i p)) b).length by omega) (by omega) (show (tkS (st rs a) i p).length ≤ 1000000 by omega), Option.bind_some]
        refine Ev.bind (with_f _ (by rw [upd_len]; exact hl) b _) ?_
        exact Ev.now _
      · rw [show chS rs (a : Int) (b : Int) (i : Int) j (p : Int) = (false, upd rs a (rmv (st rs a) i p)) from by
          unfold chS
          rw [if_pos (by exact c1), if_neg (by exact c2)]
          rfl, res_no]
        repeat' (first | exact Ev.now _ | refine ev_ite (fun _ => ?_) (fun _ => ?_))
        all_goals (exfalso; omega)
    repeat' (first | exact tail | exact Ev.now _ | refine ev_ite (fun _ => ?_) (fun _ => ?_))
    all_goals (exfalso; omega)
  · rw [show chS rs (a : Int) (b : Int) i j (p : Int) = (false, rs) from by unfold chS; rw [if_neg (by exact c1)], res_no]
    refine ev_ite (fun _ => ?_) (fun _ => by exfalso; omega)
    refine ev_ite (fun _ => ?_) (fun _ => by exfalso; omega)
    refine ev_ite (fun _ => Ev.now _) (fun _ => ?_)
    refine ev_ite (fun _ => Ev.now _) (fun _ => by exfalso; omega)
theorem ins_rmv (xs : List Int) (i : Nat) (y : Int) (h : i < xs.length) : ins (rmv xs i 1) i [y] = xs.set i y := by
  have hl : (xs.take i).length = i := by simp; omega
  unfold ins rmv
  rw [List.take_left' hl, List.drop_left' hl, List.set_eq_take_append_cons_drop, if_pos h]
  simp
theorem ins_take (xs ys : List Int) (i : Nat) (h : i ≤ xs.length) : ins (xs.take i) i ys = xs.take i ++ ys := by
  unfold ins
  rw [List.take_take, Nat.min_self, List.drop_of_length_le (by simp; omega), List.append_nil]
theorem cut1_f (l : List Int) (hl : l.length ≤ 1000000) (i : Nat) (hi : i ≤ 1000000) : Ev (fun k => haulierref36_cut.f k l (i : Int) 1) (rmv l i 1) := cut_f l hl i 1 hi (by omega)
theorem exchange_f (rs : List Rt) (hl : rs.length ≤ 1000000) (hs : ∀ j, (st rs j).length ≤ 100000) (k a i b j n : Int) (ha : 0 ≤ a) (hal : a < (rs.length : Int)) (hb : 0 ≤ b) (hbl : b < (rs.length : Int)) : Ev (fun q => haulierref36_exchange.f q (rs.map tB) k a i b j n) (resS (exS rs a b i j)) := by
  obtain ⟨a, rfl⟩ := Int.eq_ofNat_of_zero_le ha
  obtain ⟨b, rfl⟩ := Int.eq_ofNat_of_zero_le hb
  have hxs := hs a
  have hys := hs b
  unfold haulierref36_exchange.f
  simp only [List.length_map, rdB]
  by_cases c1 : (((a : Int) < (b : Int)) ∨ (a : Int) = (b : Int) ∧ i < j) ∧ 0 ≤ i ∧ i < ((st rs a).length : Int) ∧ 0 ≤ j ∧ j < ((st rs b).length : Int)
  · obtain ⟨i, rfl⟩ := Int.eq_ofNat_of_zero_le c1.2.1
    obtain ⟨j, rfl⟩ := Int.eq_ofNat_of_zero_le c1.2.2.2.1
    have tail : Ev (fun q => (haulierref36_cut.f q (st rs a) (i : Int) 1).bind fun t240 => (haulierref36_put.f t240 (i : Int) [rd (st rs b) (j : Int)]).bind fun t246 => (haulierref36_with.f q (rs.map tB) (a : Int) t246).bind fun t249 => if (b : Int) < (t249.length : Int) then ((haulierref36_cut.f q (rd_T35 t249 (b : Int)).f1 (j : Int) 1).bind fun t253 => (haulierref36_put.f t253 (j : Int) [rd (st rs a) (i : Int)]).bind fun t259 => (haulierref36_with.f q t249 (b : Int) t259).bind fun t262 => some (t262, true)) else none) (resS (exS rs (a : Int) (b : Int) (i : Int) (j : Int))) := by
      have hr := rmv_len (st rs a) i 1
      have hr2 : i ≤ (rmv (st rs a) i 1).length := by unfold rmv; simp; omega
      refine Ev.bind (cut1_f (st rs a) (by omega) i (by omega)) ?_
      rw [put_f _ _ i hr2 (by omega) (by simp), ins_rmv _ _ _ (by omega)]
      simp only [Option.bind_some]
      refine Ev.bind (with_f rs hl a _) ?_
      have hset : ((st rs a).set i (rd (st rs b) (j : Int))).length = (st rs a).length := List.length_set
      have hxb := st_upd_len rs a b ((st rs a).set i (rd (st rs b) (j : Int))) hs (by omega)
      have hjl : j < (st (upd rs a ((st rs a).set i (rd (st rs b) (j : Int)))) b).length := by
        by_cases e : a = b
        · subst e
          rw [upd_st _ _ _ (by omega), hset]
          omega
        · rw [upd_st_ne _ _ _ _ e]
          omega
      simp only [List.length_map, upd_len, rdB, if_pos hbl]
      generalize hz : upd rs a ((st rs a).set i (rd (st rs b) (j : Int))) = z at hxb hjl
      have hr3 := rmv_len (st z b) j 1
      have hr4 : j ≤ (rmv (st z b) j 1).length := by unfold rmv; simp; omega
      refine Ev.bind (cut1_f (st z b) (by omega) j (by omega)) ?_
      rw [put_f _ _ j hr4 (by omega) (by simp), ins_rmv _ _ _ hjl]
      simp only [Option.bind_some]
      refine Ev.bind (with_f z (by rw [← hz, upd_len]; exact hl) b _) ?_
      rw [show exS rs (a : Int) (b : Int) (i : Int) (j : Int) = (true, upd z b ((st z b).set j (rd (st rs a) (i : Int)))) from by
        unfold exS
        rw [if_pos (by exact c1), ← hz]
        simp only [rd, Int.toNat_natCast]
        rfl, res_yes]
      exact Ev.now _
    repeat' (first | exact tail | refine ev_ite (fun _ => ?_) (fun _ => ?_))
    all_goals (exfalso; omega)
  · rw [show exS rs (a : Int) (b : Int) i j = (false, rs) from by unfold exS; rw [if_neg (by exact c1)], res_no]
    repeat' (first | exact Ev.now _ | refine ev_ite (fun _ => ?_) (fun _ => ?_))
    all_goals (exfalso; omega)
theorem tails_f (rs : List Rt) (hl : rs.length ≤ 1000000) (hs : ∀ j, (st rs j).length ≤ 100000) (k a i b j n : Int) (ha : 0 ≤ a) (hal : a < (rs.length : Int)) (hb : 0 ≤ b) (hbl : b < (rs.length : Int)) : Ev (fun q => haulierref36_tails.f q (rs.map tB) k a i b j n) (resS (taS rs a b i j)) := by
  obtain ⟨a, rfl⟩ := Int.eq_ofNat_of_zero_le ha
  obtain ⟨b, rfl⟩ := Int.eq_ofNat_of_zero_le hb
  have hxs := hs a
  have hys := hs b
  unfold haulierref36_tails.f
  simp only [List.length_map, rdB]
  by_cases c1 : ((a : Int) < (b : Int)) ∧ 0 ≤ i ∧ i ≤ ((st rs a).length : Int) ∧ 0 ≤ j ∧ j ≤ ((st rs b).length : Int)
  · obtain ⟨i, rfl⟩ := Int.eq_ofNat_of_zero_le c1.2.1
    obtain ⟨j, rfl⟩ := Int.eq_ofNat_of_zero_le c1.2.2.2.1
    have tail : Ev (fun q => (haulierref36_put.f ((st rs a).take ((i : Int)).toNat) (i : Int) ((st rs b).drop ((j : Int)).toNat)).bind fun t305 => (haulierref36_with.f q (rs.map tB) (a : Int) t305).bind fun t308 => (haulierref36_put.f ((st rs b).take ((j : Int)).toNat) (j : Int) ((st rs a).drop ((i : Int)).toNat)).bind fun t321 => (haulierref36_with.f q t308 (b : Int) t321).bind fun t324 => some (t324, true)) (resS (taS rs (a : Int) (b : Int) (i : Int) (j : Int))) := by
      simp only [Int.toNat_natCast]
      rw [put_f _ _ i (by simp; omega) (by simp; omega) (by simp; omega), ins_take _ _ _ (by omega)]
      simp only [Option.bind_some]
      refine Ev.bind (with_f rs hl a _) ?_
      rw [put_f _ _ j (by simp; omega) (by simp; omega) (by simp; omega), ins_take _ _ _ (by omega)]
      simp only [Option.bind_some]
      refine Ev.bind (with_f _ (by rw [upd_len]; exact hl) b _) ?_
      rw [show taS rs (a : Int) (b : Int) (i : Int) (j : Int) = (true, upd (upd rs a ((st rs a).take i ++ (st rs b).drop j)) b ((st rs b).take j ++ (st rs a).drop i)) from by
        unfold taS
        rw [if_pos (by exact c1)]
        rfl, res_yes]
      exact Ev.now _
    repeat' (first | exact tail | refine ev_ite (fun _ => ?_) (fun _ => ?_))
    all_goals (exfalso; omega)
  · rw [show taS rs (a : Int) (b : Int) i j = (false, rs) from by unfold taS; rw [if_neg (by exact c1)], res_no]
    repeat' (first | exact Ev.now _ | refine ev_ite (fun _ => ?_) (fun _ => ?_))
    all_goals (exfalso; omega)
theorem turn_l0 (rs : List Rt) (hl : rs.length ≤ 1000000) (k : Int) (a i j : Nat) (b n : Int) (xs : List Int) (hx : xs.length ≤ 100000) (hij : i ≤ j) (hj : j < xs.length) (d : Nat) : ∀ (p : Nat) (acc : List Int), p + d = xs.length → acc.length = p → Ev (fun q => haulierref36_turn.l0 q (rs.map tB) xs acc (p : Int) k (a : Int) (i : Int) b (j : Int) n) ((upd rs a (acc ++ (revS xs i j).drop p)).map tB, true) := by
  have hrl := revS_len xs i j hij hj
  induction d with
  | zero =>
    intro p acc hp ha
    refine ev_succ ?_
    simp only [haulierref36_turn.l0, if_neg (show ¬ (p : Int) < (xs.length : Int) by omega)]
    rw [List.drop_of_length_le (by omega), List.append_nil]
    exact Ev.bind (with_f rs hl a _) (Ev.now _)
  | succ d ih =>
    intro p acc hp ha
    rw [rd_drop (revS xs i j) p (by omega), rev_get xs i j p hij hj (by omega)]
    refine ev_succ ?_
    simp only [haulierref36_turn.l0, if_pos (show (p : Int) < (xs.length : Int) by omega), if_pos (show (0 : Int) ≤ (p : Int) by omega), if_pos (show acc.length < 17592186044416 by omega), w64 (x := (p : Int) + 1) (by omega) (by omega), w64 (x := (p : Int) - (i : Int)) (by omega) (by omega), w64 (x := (j : Int) - ((p : Int) - (i : Int))) (by omega) (by omega)]
    have step : ∀ e : Int, Ev (fun q => haulierref36_turn.l0 q (rs.map tB) xs (acc ++ [e]) ((p : Int) + 1) k (a : Int) (i : Int) b (j : Int) n) ((upd rs a (acc ++ e :: (revS xs i j).drop (p + 1))).map tB, true) := by
      intro e
      have h := ih (p + 1) (acc ++ [e]) (by omega) (by simp; omega)
      rw [show (((p + 1 : Nat) : Int)) = (p : Int) + 1 by omega, List.append_assoc, List.singleton_append] at h
      exact h
    by_cases c1 : p < i
    · rw [if_pos c1]
      exact ev_ite (fun _ => step _) (fun _ => by exfalso; omega)
    · rw [if_neg c1]
      refine ev_ite (fun _ => by exfalso; omega) (fun _ => ?_)
      by_cases c2 : j < p
      · rw [if_pos c2]
        exact ev_ite (fun _ => step _) (fun _ => by exfalso; omega)
      · rw [if_neg c2]
        refine ev_ite (fun _ => by exfalso; omega) (fun _ => ?_)
        refine ev_ite (fun _ => ?_) (fun _ => by exfalso; omega)
        refine ev_ite (fun _ => ?_) (fun _ => by exfalso; omega)
        rw [show ((j - (p - i) : Nat) : Int) = (j : Int) - ((p : Int) - (i : Int)) by omega]
        exact step _
theorem turn_f (rs : List Rt) (hl : rs.length ≤ 1000000) (hs : ∀ j, (st rs j).length ≤ 100000) (k a i b j n : Int) (ha : 0 ≤ a) (hal : a < (rs.length : Int)) : Ev (fun q => haulierref36_turn.f q (rs.map tB) k a i b j n) (resS (turnS rs a b i j)) := by
  obtain ⟨a, rfl⟩ := Int.eq_ofNat_of_zero_le ha
  have hxs := hs a
  unfold haulierref36_turn.f
  simp only [List.length_map, rdB]
  by_cases c1 : (a : Int) = b ∧ 0 ≤ i ∧ i < j ∧ j < ((st rs a).length : Int)
  · obtain ⟨i, rfl⟩ := Int.eq_ofNat_of_zero_le c1.2.1
    obtain ⟨j, rfl⟩ := Int.eq_ofNat_of_zero_le (show 0 ≤ j by omega)
    have tail := turn_l0 rs hl k a i j b n (st rs a) hxs (by omega) (by omega) (st rs a).length 0 [] (by omega) rfl
    rw [List.nil_append, List.drop_zero] at tail
    rw [show turnS rs (a : Int) b (i : Int) (j : Int) = (true, upd rs a (revS (st rs a) i j)) from by
      unfold turnS
      rw [if_pos (by exact c1)]
      rfl, res_yes]
    repeat' (first | exact tail | refine ev_ite (fun _ => ?_) (fun _ => ?_))
    all_goals (exfalso; omega)
  · rw [show turnS rs (a : Int) b i j = (false, rs) from by unfold turnS; rw [if_neg (by exact c1)], res_no]
    repeat' (first | exact Ev.now _ | refine ev_ite (fun _ => ?_) (fun _ => ?_))
    all_goals (exfalso; omega)
theorem made_f (rs : List Rt) (hl : rs.length ≤ 1000000) (hs : ∀ j, (st rs j).length ≤ 100000) (k a i b j n : Int) : Ev (fun q => haulierref36_made.f q (rs.map tB) k a i b j n) (resS (doS rs k a i b j n)) := by
  unfold haulierref36_made.f
  simp only [List.length_map]
  by_cases c0 : (0 ≤ a ∧ a < (rs.length : Int)) ∧ (0 ≤ b ∧ b < (rs.length : Int)) ∧ (k = 3 ∨ n = 0)
  · obtain ⟨⟨ha, hal⟩, ⟨hb, hbl⟩, hk⟩ := c0
    have e0 : doS rs k a i b j n = (if k = 1 then chS rs a b i j 1 else if k = 2 then exS rs a b i j else if k = 3 then (if 2 ≤ n ∧ n ≤ 3 then chS rs a b i j n else (false, rs)) else if k = 4 then taS rs a b i j else if k = 5 then turnS rs a b i j else (false, rs)) := by
      unfold doS
      rw [if_pos ⟨⟨ha, hal⟩, ⟨hb, hbl⟩, hk⟩]
    rw [e0]
    refine ev_ite (fun _ => by exfalso; omega) (fun _ => ?_)
    refine ev_ite (fun _ => by exfalso; omega) (fun _ => ?_)
    refine ev_ite (fun _ => by exfalso; omega) (fun _ => ?_)
    refine ev_ite (fun _ => by exfalso; omega) (fun _ => ?_)
    refine ev_ite (fun k3 => ?_) (fun k3 => ?_)
    · rw [if_neg (by omega), if_neg (by omega), if_pos k3]
      refine ev_ite (fun n2 => ?_) (fun n2 => ?_)
      · rw [if_pos (by omega)]
        obtain rfl : n = ((2 : Nat) : Int) := n2
        exact Ev.bind (chain_f rs hl hs k a i b j _ 2 (by omega) (by omega) ha hal hb hbl) (Ev.now _)
      · refine ev_ite (fun n3 => ?_) (fun n3 => ?_)
        · rw [if_pos (by omega)]
          obtain rfl : n = ((3 : Nat) : Int) := n3
          exact Ev.bind (chain_f rs hl hs k a i b j _ 3 (by omega) (by omega) ha hal hb hbl) (Ev.now _)
        · rw [if_neg (by omega), res_no]
          exact Ev.now _
    · refine ev_ite (fun n0 => ?_) (fun n0 => by exfalso; omega)
      refine ev_ite (fun k1 => ?_) (fun k1 => ?_)
      · rw [if_pos k1]
        exact Ev.bind (chain_f rs hl hs k a i b j n 1 (by omega) (by omega) ha hal hb hbl) (Ev.now _)
      · rw [if_neg k1]
        refine ev_ite (fun k2 => ?_) (fun k2 => ?_)
        · rw [if_pos k2]
          exact Ev.bind (exchange_f rs hl hs k a i b j n ha hal hb hbl) (Ev.now _)
        · rw [if_neg k2, if_neg k3]
          refine ev_ite (fun k4 => ?_) (fun k4 => ?_)
          · rw [if_pos k4]
            exact Ev.bind (tails_f rs hl hs k a i b j n ha hal hb hbl) (Ev.now _)
          · rw [if_neg k4]
            refine ev_ite (fun k5 => ?_) (fun k5 => ?_)
            · rw [if_pos k5]
              exact Ev.bind (turn_f rs hl hs k a i b j n ha hal) (Ev.now _)
            · rw [if_neg k5, res_no]
              exact Ev.now _
  · rw [show doS rs k a i b j n = (false, rs) from by unfold doS; rw [if_neg c0], res_no]
    repeat' (first | exact Ev.now _ | refine ev_ite (fun _ => ?_) (fun _ => ?_))
    all_goals (exfalso; omega)
theorem refApply_f (l : List S35) (hl : l.length ≤ 1000000) (hs : ∀ x ∈ l, x.f1.length ≤ 100000) (k a i b j n : Int) : Ev (fun q => haulierref36_Apply.f q l k a i b j n) (ap tB (l.map tS) k a i b j n) := by
  have hst : ∀ j, (st (l.map tS) j).length ≤ 100000 := by
    intro j
    unfold st
    by_cases h : j < l.length
    · have := hs l[j] (List.getElem_mem h)
      simpa [h, tS, move_Apply.tS] using this
    · simp [List.getElem?_eq_none (show l.length ≤ j by omega)]
  have hm := made_f (l.map tS) (by simpa using hl) hst k a i b j n
  rw [map_BS] at hm
  unfold haulierref36_Apply.f
  refine Ev.bind hm ?_
  cases h : (doS (l.map tS) k a i b j n).1
  · rw [show ap tB (l.map tS) k a i b j n = ([], false) from by unfold ap; rw [if_neg (by rw [h]; simp)]]
    rw [show resS (doS (l.map tS) k a i b j n) = ([], false) from by unfold resS; rw [if_neg (by rw [h]; simp)]]
    simp only [Bool.false_eq_true, if_false]
    exact Ev.now _
  · rw [show resS (doS (l.map tS) k a i b j n) = ((doS (l.map tS) k a i b j n).2.map tB, true) from by unfold resS; rw [if_pos h]]
    simp only [if_true]
    obtain ⟨r, hr, hrr⟩ := alike_f l ((doS (l.map tS) k a i b j n).2.map tB) hl (fun x hx => by have := hs x hx; omega)
    refine Ev.bind hr ?_
    by_cases e : l.map tS = (doS (l.map tS) k a i b j n).2
    · rw [hrr.2 (by rw [← e, map_BS]), show ap tB (l.map tS) k a i b j n = ([], false) from by unfold ap; rw [if_neg (fun x => x.2 e)]]
      simp only [if_true]
      exact Ev.now _
    · rw [show r = false from by
        cases r
        · rfl
        · exact absurd ((congrArg (List.map tS) (hrr.1 rfl)).trans (map_SB _)) e, show ap tB (l.map tS) k a i b j n = ((doS (l.map tS) k a i b j n).2.map tB, true) from by unfold ap; rw [if_pos ⟨h, e⟩]]
      simp only [Bool.false_eq_true, if_false]
      exact Ev.now _
/-! all moves: the reference tries all sixes of numbers -/
open Go.Proofs.Ytcofibbgdnbejaa.Mw2 Go.Proofs.Ytcofibbgdnbejaa.Mw8 Go.Proofs.Ytcofibbgdnbejaa.Mw9
theorem isM_bounds {rs : List Rt} {k i j n : Int} {a b : Nat} (h : isM rs (mo k (a : Int) i (b : Int) j n) = true) : 0 ≤ i ∧ i ≤ ((st rs a).length : Int) ∧ 0 ≤ j ∧ j ≤ ((st rs b).length : Int) ∧ (k = 3 → n = 2 ∨ n = 3) ∧ (¬ k = 3 → n = 0) ∧ a < rs.length ∧ b < rs.length := by
  have h1 : (doS rs k (a : Int) i (b : Int) j n).1 = true := by
    unfold isM mo at h
    rw [Bool.and_eq_true] at h
    exact h.1
  unfold doS at h1
  split at h1
  · rename_i c0
    obtain ⟨⟨_, ha⟩, ⟨_, hb⟩, hk⟩ := c0
    have hch : ∀ p : Int, 1 ≤ p → (chS rs (a : Int) (b : Int) i j p).1 = true → 0 ≤ i ∧ i ≤ ((st rs a).length : Int) ∧ 0 ≤ j ∧ j ≤ ((st rs b).length : Int) := by
      intro p hp hc
      obtain ⟨e1, e2, e3, e4, _⟩ := ch_char hc
      simp only [Int.toNat_natCast] at e2 e4
      refine ⟨e1, by omega, e3, ?_⟩
      by_cases e : a = b
      · subst e
        rw [upd_st _ _ _ (by omega)] at e4
        have := rmv_len (st rs a) i.toNat p.toNat
        omega
      · rw [upd_st_ne _ _ _ _ e] at e4
        exact e4
    split at h1
    · rename_i k1
      obtain ⟨q1, q2, q3, q4⟩ := hch 1 (by omega) h1
      exact ⟨q1, q2, q3, q4, fun e => by omega, fun e => by omega, by omega, by omega⟩
    · split at h1
      · rename_i k2
        unfold exS at h1
        split at h1
        · rename_i c1
          simp only [Int.toNat_natCast] at c1
          exact ⟨by omega, by omega, by omega, by omega, fun e => by omega, fun e => by omega, by omega, by omega⟩
        · cases h1
      · split at h1
        · rename_i k3
          split at h1
          · rename_i cn
            obtain ⟨q1, q2, q3, q4⟩ := hch n (by omega) h1
            exact ⟨q1, q2, q3, q4, fun e => by omega, fun e => by omega, by omega, by omega⟩
          · cases h1
        · split at h1
          · unfold taS at h1
            split at h1
            · rename_i c1
              simp only [Int.toNat_natCast] at c1
              exact ⟨by omega, by omega, by omega, by omega, fun e => by omega, fun e => by omega, by omega, by omega⟩
            · cases h1
          · split at h1
            · unfold turnS at h1
              split at h1
              · rename_i c1
                simp only [Int.toNat_natCast] at c1
                obtain ⟨e1, e2, e3, e4⟩ := c1
                obtain rfl : a = b := by omega
                exact ⟨by omega, by omega, by omega, by omega, fun e => by omega, fun e => by omega, by omega, by omega⟩
              · cases h1
            · cases h1
  · cases h1
/-! the tries, from a number on -/
def g6 (is : MS → Bool) (k a i b j : Int) (p d : Nat) : List MS := ((List.range' p d).map fun (n : Nat) => mo k a i b j (n : Int)).filter is
def g5 (is : MS → Bool) (k a i b : Int) (p d : Nat) : List MS := (List.range' p d).flatMap fun (j : Nat) => g6 is k a i b (j : Int) 0 4
def g4 (is : MS → Bool) (m : Nat) (k a i : Int) (p d : Nat) : List MS := (List.range' p d).flatMap fun (b : Nat) => g5 is k a i (b : Int) 0 (m + 1)
def g3 (is : MS → Bool) (m L : Nat) (k a : Int) (p d : Nat) : List MS := (List.range' p d).flatMap fun (i : Nat) => g4 is m k a (i : Int) 0 L
def g2 (is : MS → Bool) (m L : Nat) (k : Int) (p d : Nat) : List MS := (List.range' p d).flatMap fun (a : Nat) => g3 is m L k (a : Int) 0 (m + 1)
def g1 (is : MS → Bool) (m L : Nat) (p d : Nat) : List MS := (List.range' p d).flatMap fun (k : Nat) => g2 is m L (k : Int) 0 L
theorem r_cons (f : Nat → List MS) (p d : Nat) : (List.range' p (d + 1)).flatMap f = f p ++ (List.range' (p + 1) d).flatMap f := by rw [List.range'_succ, List.flatMap_cons]
theorem g6_cons (is : MS → Bool) (k a i b j : Int) (p d : Nat) : g6 is k a i b j p (d + 1) = (if is (mo k a i b j (p : Int)) = true then [mo k a i b j (p : Int)] else []) ++ g6 is k a i b j (p + 1) d := by
  unfold g6
  rw [List.range'_succ, List.map_cons]
  cases h : is (mo k a i b j (p : Int)) <;> simp [h]
theorem fm_congr {f g : Nat → List MS} {m : Nat} (h : ∀ j, j < m → f j = g j) : (List.range m).flatMap f = (List.range m).flatMap g := by
  induction m with
  | zero => rfl
  | succ m ih => rw [fm_succ, fm_succ, ih (fun j hj => h j (by omega)), h m (by omega)]
/-- More tries than needed add nothing. -/
theorem more (f g : Nat → List MS) {m M : Nat} (h : m ≤ M) (h1 : ∀ j, j < m → f j = g j) (h2 : ∀ j, m ≤ j → f j = []) : (List.range' 0 M).flatMap f = (List.range m).flatMap g := by
  rw [← List.range_eq_range', ← fm_congr h1]
  obtain ⟨d, rfl⟩ : ∃ d, M = m + d := ⟨M - m, by omega⟩
  clear h h1
  induction d with
  | zero => rfl
  | succ d ih =>
    rw [← Nat.add_assoc, fm_succ, h2 (m + d) (by omega), List.append_nil]
    exact ih
theorem none_of {rs : List Rt} {x : MS} (h : ¬ isM rs x = true) : isM rs x = false := by simpa using h
theorem g6_all (rs : List Rt) (k i j : Int) (a b : Nat) : g6 (isM rs) k (a : Int) i (b : Int) j 0 4 = fr4 (isM rs) k (a : Int) i (b : Int) j (lens k) := by
  have z : ∀ n : Int, isM rs (mo k (a : Int) i (b : Int) j n) = true → (k = 3 → n = 2 ∨ n = 3) ∧ (¬ k = 3 → n = 0) := fun n hn => by
    obtain ⟨_, _, _, _, h1, h2, _⟩ := isM_bounds hn
    exact ⟨h1, h2⟩
  have e : g6 (isM rs) k (a : Int) i (b : Int) j 0 4 = [mo k a i b j 0, mo k a i b j 1, mo k a i b j 2, mo k a i b j 3].filter (isM rs) := rfl
  rw [e]
  unfold fr4 lens
  by_cases k3 : k = 3
  · have f0 : isM rs (mo k (a : Int) i (b : Int) j 0) = false := none_of fun h => by have := (z 0 h).1 k3; omega
    have f1 : isM rs (mo k (a : Int) i (b : Int) j 1) = false := none_of fun h => by have := (z 1 h).1 k3; omega
    rw [if_pos k3]
    simp [f0, f1]
  · have f1 : isM rs (mo k (a : Int) i (b : Int) j 1) = false := none_of fun h => by have := (z 1 h).2 k3; omega
    have f2 : isM rs (mo k (a : Int) i (b : Int) j 2) = false := none_of fun h => by have := (z 2 h).2 k3; omega
    have f3 : isM rs (mo k (a : Int) i (b : Int) j 3) = false := none_of fun h => by have := (z 3 h).2 k3; omega
    rw [if_neg k3]
    cases f0 : isM rs (mo k (a : Int) i (b : Int) j 0) <;> simp [List.filter, f0, f1, f2, f3]
theorem nil_of {is : MS → Bool} {k a i b j : Int} {ns : List Int} (h : ∀ n, is (mo k a i b j n) = false) : fr4 is k a i b j ns = [] := by
  unfold fr4
  rw [List.filter_eq_nil_iff]
  intro x hx
  obtain ⟨n, _, rfl⟩ := List.mem_map.1 hx
  rw [h n]
  simp
theorem g5_all (rs : List Rt) (k i : Int) (a b m : Nat) (hm : (st rs b).length ≤ m) : g5 (isM rs) k (a : Int) i (b : Int) 0 (m + 1) = fr3 (isM rs) k (a : Int) i (b : Int) ((st rs b).length + 1) := by
  unfold g5 fr3
  refine more _ _ (by omega) (fun j hj => g6_all rs k i (j : Int) a b) (fun j hj => ?_)
  rw [g6_all]
  refine nil_of fun n => none_of fun h => ?_
  obtain ⟨_, _, _, h1, _⟩ := isM_bounds h
  omega
theorem nil_fm {f : Nat → List MS} (h : ∀ j, f j = []) (m : Nat) : (List.range m).flatMap f = [] := by
  induction m with
  | zero => rfl
  | succ m ih => rw [fm_succ, ih, h m]; rfl
theorem g4_all (rs : List Rt) (k i : Int) (a m : Nat) (hm : ∀ b, (st rs b).length ≤ m) : g4 (isM rs) m k (a : Int) i 0 rs.length = fr2 (isM rs) rs k (a : Int) i rs.length := by
  unfold g4 fr2
  exact more _ _ (Nat.le_refl _) (fun b hb => g5_all rs k i a b m (hm b)) (fun b hb => by
    rw [g5_all rs k i a b m (hm b)]
    unfold fr3
    exact nil_fm (fun j => nil_of fun n => none_of fun h => by
      obtain ⟨_, _, _, _, _, _, _, h1⟩ := isM_bounds h
      omega) _)
theorem g3_all (rs : List Rt) (k : Int) (a m : Nat) (hm : ∀ b, (st rs b).length ≤ m) : g3 (isM rs) m rs.length k (a : Int) 0 (m + 1) = ea3 (isM rs) rs k (a : Int) ((st rs a).length + 1) := by
  unfold g3 ea3
  refine more _ _ (by have := hm a; omega) (fun i hi => g4_all rs k (i : Int) a m hm) (fun i hi => ?_)
  rw [g4_all rs k (i : Int) a m hm]
  unfold fr2
  refine nil_fm (fun b => ?_) _
  unfold fr3
  exact nil_fm (fun j => nil_of fun n => none_of fun h => by
    obtain ⟨_, h1, _⟩ := isM_bounds h
    omega) _
theorem g2_all (rs : List Rt) (k : Int) (m : Nat) (hm : ∀ b, (st rs b).length ≤ m) : g2 (isM rs) m rs.length k 0 rs.length = ea2 (isM rs) rs k rs.length := by
  unfold g2 ea2
  rw [← List.range_eq_range']
  exact fm_congr fun a ha => g3_all rs k a m hm
theorem g1_all (rs : List Rt) (m : Nat) (hm : ∀ b, (st rs b).length ≤ m) : g1 (isM rs) m rs.length 1 5 = movesM rs := by
  unfold movesM allM ea1
  rw [show g1 (isM rs) m rs.length 1 5 = (List.range 5).flatMap fun (q : Nat) => g2 (isM rs) m rs.length (((q + 1 : Nat)) : Int) 0 rs.length from rfl]
  refine fm_congr fun q hq => ?_
  rw [g2_all rs _ m hm]
  congr 1
/-! the reference's loops, and the law -/
def f24 (x : MS) : S24 := ⟨x.1, x.2.1, x.2.2.1, x.2.2.2.1, x.2.2.2.2.1, x.2.2.2.2.2⟩
theorem fm_len {f : Nat → List MS} {c : Nat} (h : ∀ j, (f j).length ≤ c) (p d : Nat) : ((List.range' p d).flatMap f).length ≤ d * c := by
  induction d generalizing p with
  | zero => simp
  | succ d ih =>
    rw [r_cons, List.length_append, Nat.succ_mul]
    have := h p
    have := ih (p + 1)
    omega
theorem g6_len (is : MS → Bool) (k a i b j : Int) (p d : Nat) : (g6 is k a i b j p d).length ≤ d := by
  unfold g6
  refine Nat.le_trans (List.length_filter_le _ _) ?_
  simp
theorem g5_len (is : MS → Bool) (k a i b : Int) (p d : Nat) (hd : d ≤ 9) : (g5 is k a i b p d).length ≤ 36 := by
  have := fm_len (fun (j : Nat) => g6_len is k a i b (j : Int) 0 4) p d
  exact Nat.le_trans this (by omega)
theorem g4_len (is : MS → Bool) (m : Nat) (hm : m ≤ 8) (k a i : Int) (p d : Nat) (hd : d ≤ 5) : (g4 is m k a i p d).length ≤ 180 := by
  have := fm_len (fun (b : Nat) => g5_len is k a i (b : Int) 0 (m + 1) (by omega)) p d
  exact Nat.le_trans this (by omega)
theorem g3_len (is : MS → Bool) (m L : Nat) (hm : m ≤ 8) (hL : L ≤ 5) (k a : Int) (p d : Nat) (hd : d ≤ 9) : (g3 is m L k a p d).length ≤ 1620 := by
  have := fm_len (fun (i : Nat) => g4_len is m hm k a (i : Int) 0 L hL) p d
  exact Nat.le_trans this (by omega)
theorem g2_len (is : MS → Bool) (m L : Nat) (hm : m ≤ 8) (hL : L ≤ 5) (k : Int) (p d : Nat) (hd : d ≤ 5) : (g2 is m L k p d).length ≤ 8100 := by
  have := fm_len (fun (a : Nat) => g3_len is m L hm hL k (a : Int) 0 (m + 1) (by omega)) p d
  exact Nat.le_trans this (by omega)
theorem g1_len (is : MS → Bool) (m L : Nat) (hm : m ≤ 8) (hL : L ≤ 5) (p d : Nat) (hd : d ≤ 5) : (g1 is m L p d).length ≤ 40500 := by
  have := fm_len (fun (k : Nat) => g2_len is m L hm hL (k : Int) 0 L hL) p d
  exact Nat.le_trans this (by omega)
section
variable (l : List S35) (hl : l.length ≤ 5) (hs : ∀ x ∈ l, x.f1.length ≤ 8) (m : Nat) (hm : m ≤ 8) {R : List S24}
include hl hs
theorem l6_run (k a i b : Int) (j : Nat) (hj : j ≤ 100) (d : Nat) : ∀ (n : Nat) (acc : List S24), n + d = 4 → acc.length + (g6 (isM (l.map tS)) k a i b (j : Int) n d).length ≤ 1000000 → Ev (fun q => haulierref36_All.l5 q l (m : Int) (acc ++ (g6 (isM (l.map tS)) k a i b (j : Int) n d).map f24) k a i b ((j : Int) + 1)) R → Ev (fun q => haulierref36_All.l6 q l (m : Int) acc k a i b (j : Int) (n : Int)) R := by
  induction d with
  | zero =>
    intro n acc hn _ hx
    refine ev_succ ?_
    simp only [haulierref36_All.l6, if_neg (show ¬ (n : Int) ≤ 3 by omega), w64 (x := (j : Int) + 1) (by omega) (by omega)]
    simpa [g6] using hx
  | succ d ih =>
    intro n acc hn hb hx
    rw [g6_cons] at hb hx
    refine ev_succ ?_
    simp only [haulierref36_All.l6, if_pos (show (n : Int) ≤ 3 by omega), w64 (x := (n : Int) + 1) (by omega) (by omega)]
    refine Ev.bind (refApply_f l (by omega) (fun x hx => by have := hs x hx; omega) k a i b (j : Int) (n : Int)) ?_
    rw [ap_is]
    cases his : isM (l.map tS) (mo k a i b (j : Int) (n : Int))
    · rw [his] at hb hx
      simp only [Bool.false_eq_true, if_false, List.nil_append] at hb hx ⊢
      have h := ih (n + 1) acc (by omega) hb hx
      rw [show (((n + 1 : Nat) : Int)) = (n : Int) + 1 by omega] at h
      exact h
    · rw [his] at hb hx
      simp only [if_true, List.length_append, List.length_cons, List.length_nil, List.map_append, List.map_cons, List.map_nil] at hb hx ⊢
      simp only [if_pos (show acc.length < 2932031007402 by omega)]
      have h := ih (n + 1) (acc ++ [f24 (mo k a i b (j : Int) (n : Int))]) (by omega) (by simp; omega) (by rw [List.append_assoc]; exact hx)
      rw [show (((n + 1 : Nat) : Int)) = (n : Int) + 1 by omega] at h
      exact h
include hm
theorem l5_run (k a i : Int) (b : Nat) (hb_ : b ≤ 100) (d : Nat) : ∀ (p : Nat) (acc : List S24), p + d = m + 1 → acc.length + (g5 (isM (l.map tS)) k a i (b : Int) p d).length ≤ 1000000 → Ev (fun q => haulierref36_All.l4 q l (m : Int) (acc ++ (g5 (isM (l.map tS)) k a i (b : Int) p d).map f24) k a i ((b : Int) + 1)) R → Ev (fun q => haulierref36_All.l5 q l (m : Int) acc k a i (b : Int) (p : Int)) R := by
  induction d with
  | zero =>
    intro p acc hp _ hx
    refine ev_succ ?_
    simp only [haulierref36_All.l5, if_neg (show ¬ (p : Int) ≤ (m : Int) by omega), w64 (x := (b : Int) + 1) (by omega) (by omega)]
    simpa [g5] using hx
  | succ d ih =>
    intro p acc hp hb hx
    have e : g5 (isM (l.map tS)) k a i (b : Int) p (d + 1) = g6 (isM (l.map tS)) k a i (b : Int) (p : Int) 0 4 ++ g5 (isM (l.map tS)) k a i (b : Int) (p + 1) d := r_cons _ p d
    rw [e, List.length_append] at hb
    rw [e, List.map_append, ← List.append_assoc] at hx
    refine ev_succ ?_
    simp only [haulierref36_All.l5, if_pos (show (p : Int) ≤ (m : Int) by omega)]
    refine l6_run l hl hs m k a i (b : Int) p (by omega) 4 0 acc (by omega) (by omega) ?_
    have h := ih (p + 1) _ (by omega) (by rw [List.length_append, List.length_map]; omega) hx
    rw [show (((p + 1 : Nat) : Int)) = (p : Int) + 1 by omega] at h
    exact h
theorem l4_run (k a : Int) (i : Nat) (hi : i ≤ 100) (d : Nat) : ∀ (p : Nat) (acc : List S24), p + d = l.length → acc.length + (g4 (isM (l.map tS)) m k a (i : Int) p d).length ≤ 1000000 → Ev (fun q => haulierref36_All.l3 q l (m : Int) (acc ++ (g4 (isM (l.map tS)) m k a (i : Int) p d).map f24) k a ((i : Int) + 1)) R → Ev (fun q => haulierref36_All.l4 q l (m : Int) acc k a (i : Int) (p : Int)) R := by
  induction d with
  | zero =>
    intro p acc hp _ hx
    refine ev_succ ?_
    simp only [haulierref36_All.l4, if_neg (show ¬ (p : Int) < (l.length : Int) by omega), w64 (x := (i : Int) + 1) (by omega) (by omega)]
    simpa [g4] using hx
  | succ d ih =>
    intro p acc hp hb hx
    have e : g4 (isM (l.map tS)) m k a (i : Int) p (d + 1) = g5 (isM (l.map tS)) k a (i : Int) (p : Int) 0 (m + 1) ++ g4 (isM (l.map tS)) m k a (i : Int) (p + 1) d := r_cons _ p d
    rw [e, List.length_append] at hb
    rw [e, List.map_append, ← List.append_assoc] at hx
    refine ev_succ ?_
    simp only [haulierref36_All.l4, if_pos (show (p : Int) < (l.length : Int) by omega)]
    refine l5_run l hl hs m hm k a (i : Int) p (by omega) (m + 1) 0 acc (by omega) (by omega) ?_
    have h := ih (p + 1) _ (by omega) (by rw [List.length_append, List.length_map]; omega) hx
    rw [show (((p + 1 : Nat) : Int)) = (p : Int) + 1 by omega] at h
    exact h
theorem l3_run (k : Int) (a : Nat) (ha : a ≤ 100) (d : Nat) : ∀ (p : Nat) (acc : List S24), p + d = m + 1 → acc.length + (g3 (isM (l.map tS)) m l.length k (a : Int) p d).length ≤ 1000000 → Ev (fun q => haulierref36_All.l2 q l (m : Int) (acc ++ (g3 (isM (l.map tS)) m l.length k (a : Int) p d).map f24) k ((a : Int) + 1)) R → Ev (fun q => haulierref36_All.l3 q l (m : Int) acc k (a : Int) (p : Int)) R := by
  induction d with
  | zero =>
    intro p acc hp _ hx
    refine ev_succ ?_
    simp only [haulierref36_All.l3, if_neg (show ¬ (p : Int) ≤ (m : Int) by omega), w64 (x := (a : Int) + 1) (by omega) (by omega)]
    simpa [g3] using hx
  | succ d ih =>
    intro p acc hp hb hx
    have e : g3 (isM (l.map tS)) m l.length k (a : Int) p (d + 1) = g4 (isM (l.map tS)) m k (a : Int) (p : Int) 0 l.length ++ g3 (isM (l.map tS)) m l.length k (a : Int) (p + 1) d := r_cons _ p d
    rw [e, List.length_append] at hb
    rw [e, List.map_append, ← List.append_assoc] at hx
    refine ev_succ ?_
    simp only [haulierref36_All.l3, if_pos (show (p : Int) ≤ (m : Int) by omega)]
    refine l4_run l hl hs m hm k (a : Int) p (by omega) l.length 0 acc (by omega) (by omega) ?_
    have h := ih (p + 1) _ (by omega) (by rw [List.length_append, List.length_map]; omega) hx
    rw [show (((p + 1 : Nat) : Int)) = (p : Int) + 1 by omega] at h
    exact h
theorem l2_run (k : Nat) (hk : k ≤ 100) (d : Nat) : ∀ (p : Nat) (acc : List S24), p + d = l.length → acc.length + (g2 (isM (l.map tS)) m l.length (k : Int) p d).length ≤ 1000000 → Ev (fun q => haulierref36_All.l1 q l (m : Int) (acc ++ (g2 (isM (l.map tS)) m l.length (k : Int) p d).map f24) ((k : Int) + 1)) R → Ev (fun q => haulierref36_All.l2 q l (m : Int) acc (k : Int) (p : Int)) R := by
  induction d with
  | zero =>
    intro p acc hp _ hx
    refine ev_succ ?_
    simp only [haulierref36_All.l2, if_neg (show ¬ (p : Int) < (l.length : Int) by omega), w64 (x := (k : Int) + 1) (by omega) (by omega)]
    simpa [g2] using hx
  | succ d ih =>
    intro p acc hp hb hx
    have e : g2 (isM (l.map tS)) m l.length (k : Int) p (d + 1) = g3 (isM (l.map tS)) m l.length (k : Int) (p : Int) 0 (m + 1) ++ g2 (isM (l.map tS)) m l.length (k : Int) (p + 1) d := r_cons _ p d
    rw [e, List.length_append] at hb
    rw [e, List.map_append, ← List.append_assoc] at hx
    refine ev_succ ?_
    simp only [haulierref36_All.l2, if_pos (show (p : Int) < (l.length : Int) by omega)]
    refine l3_run l hl hs m hm (k : Int) p (by omega) (m + 1) 0 acc (by omega) (by omega) ?_
    have h := ih (p + 1) _ (by omega) (by rw [List.length_append, List.length_map]; omega) hx
    rw [show (((p + 1 : Nat) : Int)) = (p : Int) + 1 by omega] at h
    exact h
theorem l1_run (d : Nat) : ∀ (p : Nat) (acc : List S24), p + d = 6 → acc.length + (g1 (isM (l.map tS)) m l.length p d).length ≤ 1000000 → Ev (fun q => haulierref36_All.l1 q l (m : Int) acc (p : Int)) (acc ++ (g1 (isM (l.map tS)) m l.length p d).map f24) := by
  induction d with
  | zero =>
    intro p acc hp _
    refine ev_succ ?_
    simp only [haulierref36_All.l1, if_neg (show ¬ (p : Int) ≤ 5 by omega)]
    rw [show g1 (isM (l.map tS)) m l.length p 0 = [] from rfl, List.map_nil, List.append_nil]
    exact Ev.now _
  | succ d ih =>
    intro p acc hp hb
    have e : g1 (isM (l.map tS)) m l.length p (d + 1) = g2 (isM (l.map tS)) m l.length (p : Int) 0 l.length ++ g1 (isM (l.map tS)) m l.length (p + 1) d := r_cons _ p d
    rw [e, List.length_append] at hb
    rw [e, List.map_append, ← List.append_assoc]
    refine ev_succ ?_
    simp only [haulierref36_All.l1, if_pos (show (p : Int) ≤ 5 by omega)]
    refine l2_run l hl hs m hm p (by omega) l.length 0 acc (by omega) (by omega) ?_
    have h := ih (p + 1) (acc ++ (g2 (isM (l.map tS)) m l.length (p : Int) 0 l.length).map f24) (by omega) (by rw [List.length_append, List.length_map]; omega)
    rw [show (((p + 1 : Nat) : Int)) = (p : Int) + 1 by omega] at h
    exact h
omit hm in
theorem l0_run (d : Nat) : ∀ (p m : Nat), p + d = l.length → m ≤ 8 → (∀ j, j < p → (rd_T35 l (j : Int)).f1.length ≤ m) → ∃ mm : Nat, mm ≤ 8 ∧ (∀ j, j < l.length → (rd_T35 l (j : Int)).f1.length ≤ mm) ∧ ∀ R, Ev (fun q => haulierref36_All.l1 q l (mm : Int) [] 1) R → Ev (fun q => haulierref36_All.l0 q l (m : Int) (p : Int)) R := by
  induction d with
  | zero =>
    intro p m hp hm hq
    refine ⟨m, hm, fun j hj => hq j (by omega), fun R hR => ev_succ ?_⟩
    simp only [haulierref36_All.l0, if_neg (show ¬ (p : Int) < (l.length : Int) by omega)]
    exact hR
  | succ d ih =>
    intro p m hp hm hq
    have hx := hs _ (rd35_mem l p (by omega))
    by_cases c : ((rd_T35 l (p : Int)).f1.length : Int) > (m : Int)
    · obtain ⟨mm, h1, h2, h3⟩ := ih (p + 1) (rd_T35 l (p : Int)).f1.length (by omega) hx (fun j hj => by
        by_cases e : j = p
        · rw [e]; exact Nat.le_refl _
        · have := hq j (by omega)
          omega)
      refine ⟨mm, h1, h2, fun R hR => ev_succ ?_⟩
      simp only [haulierref36_All.l0, if_pos (show (p : Int) < (l.length : Int) by omega), if_pos (show (0 : Int) ≤ (p : Int) by omega), if_pos c, w64 (x := (p : Int) + 1) (by omega) (by omega)]
      have h := h3 R hR
      rw [show (((p + 1 : Nat) : Int)) = (p : Int) + 1 by omega] at h
      exact h
    · obtain ⟨mm, h1, h2, h3⟩ := ih (p + 1) m (by omega) hm (fun j hj => by
        by_cases e : j = p
        · rw [e]; omega
        · exact hq j (by omega))
      refine ⟨mm, h1, h2, fun R hR => ev_succ ?_⟩
      simp only [haulierref36_All.l0, if_pos (show (p : Int) < (l.length : Int) by omega), if_pos (show (0 : Int) ≤ (p : Int) by omega), if_neg c, w64 (x := (p : Int) + 1) (by omega) (by omega)]
      have h := h3 R hR
      rw [show (((p + 1 : Nat) : Int)) = (p : Int) + 1 by omega] at h
      exact h
omit hm in
theorem allref_f : Ev (fun q => haulierref36_All.f q l) ((movesM (l.map tS)).map f24) ∧ (movesM (l.map tS)).length ≤ 40500 := by
  obtain ⟨mm, h1, h2, h3⟩ := l0_run l hl hs l.length 0 0 (by omega) (by omega) (fun j hj => by omega)
  have hall : ∀ b, (st (l.map tS) b).length ≤ mm := by
    intro b
    unfold st
    by_cases h : b < l.length
    · have := h2 b h
      simpa [rd_T35, h, tS, move_Apply.tS] using this
    · simp [List.getElem?_eq_none (show l.length ≤ b by omega)]
  have e := g1_all (l.map tS) mm hall
  rw [List.length_map] at e
  have hlen := g1_len (isM (l.map tS)) mm l.length h1 hl 1 5 (by omega)
  refine ⟨?_, by rw [← e]; exact hlen⟩
  unfold haulierref36_All.f
  refine h3 _ ?_
  have h := l1_run l hl hs mm h1 5 1 [] (by omega) (by simp; omega)
  rw [List.nil_append, e] at h
  exact h
end
theorem rd29 (xs : List MS) (i : Nat) (h : i < xs.length) : rd_T29 (xs.map move_All.mB) (i : Int) = move_All.mB xs[i] := by simp [rd_T29, h]
theorem rd24 (xs : List MS) (i : Nat) (h : i < xs.length) : rd_T24 (xs.map f24) (i : Int) = f24 xs[i] := by simp [rd_T24, h]
theorem nth_f (l : List S35) (hl : l.length ≤ 1000000) (hs : ∀ x ∈ l, x.f1.length ≤ 1000000) (n : Int) (hn : n ≤ 9223372036854775807) : Ev (fun q => move_Nth.f q l n) ((nthM (movesM (l.map tS)) n).1.1, (nthM (movesM (l.map tS)) n).1.2.1, (nthM (movesM (l.map tS)) n).1.2.2.1, (nthM (movesM (l.map tS)) n).1.2.2.2.1, (nthM (movesM (l.map tS)) n).1.2.2.2.2.1, (nthM (movesM (l.map tS)) n).1.2.2.2.2.2, (nthM (movesM (l.map tS)) n).2) := by
  unfold move_Nth.f
  refine Ev.bind (own_f l hl hs) ?_
  rw [if_pos ⟨⟨rfl, by rw [List.all_eq_true]; exact fun x hx => decide_eq_true (hs x hx)⟩, hn⟩]
  exact Ev.now _
theorem all_f (l : List S35) (hl : l.length ≤ 1000000) (hs : ∀ x ∈ l, x.f1.length ≤ 1000000) (hm : (movesM (l.map tS)).length ≤ 1000000) : Ev (fun q => move_All.f q l) ((movesM (l.map tS)).map move_All.mB) := by
  unfold move_All.f
  refine Ev.bind (own_f l hl hs) ?_
  rw [if_pos ⟨⟨rfl, by rw [List.all_eq_true]; exact fun x hx => decide_eq_true (hs x hx)⟩, hm⟩]
  exact Ev.now _
theorem law_l0 (l : List S35) (hl : l.length ≤ 1000000) (hs : ∀ x ∈ l, x.f1.length ≤ 1000000) (n : Int) (hn : n ≤ 9223372036854775807) (xs : List MS) (hxs : movesM (l.map tS) = xs) (hm : xs.length ≤ 1000000) (d : Nat) : ∀ i : Nat, i + d = xs.length → Ev (fun q => haulierlaw36_MoveAll.l0 q l n (xs.map move_All.mB) (xs.map f24) (xs.length : Int) (i : Int)) true := by
  induction d with
  | zero =>
    intro i hi
    refine ev_succ ?_
    simp only [haulierlaw36_MoveAll.l0, if_neg (show ¬ (i : Int) < (xs.length : Int) by omega)]
    refine Ev.bind (nth_f l hl hs n hn) ?_
    rw [hxs]
    by_cases c1 : n < 0
    · have e : nthM xs n = (z6, false) := if_pos c1
      rw [e]
      simp only [if_pos c1, Bool.false_eq_true, if_false]
      exact Ev.bind alive_f (Ev.now _)
    · simp only [if_neg c1, List.length_map]
      by_cases c2 : n ≥ (xs.length : Int)
      · rw [nth_none (by omega) (by omega)]
        simp only [if_pos c2, Bool.false_eq_true, if_false]
        exact Ev.bind alive_f (Ev.now _)
      · obtain ⟨k, rfl⟩ := Int.eq_ofNat_of_zero_le (show 0 ≤ n by omega)
        have hk : k < xs.length := by omega
        have e : nthM xs (k : Int) = (xs[k], true) := nth_at (by omega) (by rw [Int.toNat_natCast]; exact List.getElem?_eq_getElem hk)
        rw [e, rd24 xs k hk]
        simp only [if_neg c2, if_true, if_pos (show (0 : Int) ≤ (k : Int) by omega), if_pos (show (k : Int) < (xs.length : Int) by omega), f24, beq_self_eq_true, Bool.and_self]
        exact Ev.bind alive_f (Ev.now _)
  | succ d ih =>
    intro i hi
    have h := ih (i + 1) (by omega)
    rw [show (((i + 1 : Nat) : Int)) = (i : Int) + 1 by omega] at h
    refine ev_succ ?_
    simp only [haulierlaw36_MoveAll.l0, if_pos (show (i : Int) < (xs.length : Int) by omega), if_pos (show (0 : Int) ≤ (i : Int) by omega), List.length_map, rd29 xs i (by omega), rd24 xs i (by omega), move_All.mB, f24, beq_self_eq_true, Bool.not_true, Bool.or_self, Bool.false_eq_true, if_false, w64 (x := (i : Int) + 1) (by omega) (by omega)]
    exact h
theorem MoveAll : haulierlaw36_MoveAll.Pure := by
  intro l n _ _ hn
  refine Ev.rounds ?_
  unfold haulierlaw36_MoveAll.f
  refine Ev.bind (light_f l 5 8 (by decide)) ?_
  cases hL : lightS l 5 8
  · simp only [Bool.false_eq_true, if_false]
    exact Ev.bind alive_f (Ev.now _)
  · obtain ⟨hl, hs⟩ := light_yes hL
    simp only [if_true]
    have hl' : l.length ≤ 5 := by omega
    have hs' : ∀ x ∈ l, x.f1.length ≤ 8 := fun x hx => by have := hs x hx; omega
    have hs2 : ∀ x ∈ l, x.f1.length ≤ 1000000 := fun x hx => by have := hs' x hx; omega
    obtain ⟨hr, hlen⟩ := allref_f l hl' hs'
    refine Ev.bind (all_f l (by omega) hs2 (by omega)) ?_
    refine Ev.bind hr ?_
    simp only [List.length_map, if_true]
    exact law_l0 l (by omega) hs2 n (ir_of hn).2 _ rfl (by omega) (movesM (l.map tS)).length 0 (by omega)
end Go.Proofs.Ytcofibbgdnbejaa.Pure
