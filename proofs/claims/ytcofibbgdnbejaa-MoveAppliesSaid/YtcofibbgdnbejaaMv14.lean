/- What a move does to routes, in plain terms: no stop is lost, no truck changes, and behind it its way back is a move. -/
import Derived.Test.YtcofibbgdnbejaaMv13
namespace Go.Proofs.Ytcofibbgdnbejaa.Mv14
open Go.RowKit Go.Proofs.Ytcofibbgdnbejaa.Mv1 Go.Proofs.Ytcofibbgdnbejaa.Mv2 Go.Proofs.Ytcofibbgdnbejaa.Mv3 Go.Proofs.Ytcofibbgdnbejaa.Mv5 Go.Proofs.Ytcofibbgdnbejaa.Mv6 Go.Proofs.Ytcofibbgdnbejaa.Mv7 Go.Proofs.Ytcofibbgdnbejaa.Mv8 Go.Proofs.Ytcofibbgdnbejaa.Mv13
set_option linter.unusedVariables false
set_option linter.unusedSimpArgs false
def upd (rs : List Rt) (a : Nat) (xs : List Int) : List Rt := rs.set a (tr rs a, xs)
def rmv (xs : List Int) (i n : Nat) : List Int := xs.take i ++ xs.drop (i + n)
def ins (xs : List Int) (j : Nat) (ys : List Int) : List Int := xs.take j ++ ys ++ xs.drop j
theorem upd_len (rs : List Rt) (a : Nat) (xs : List Int) : (upd rs a xs).length = rs.length := by simp [upd]
theorem upd_st (rs : List Rt) (a : Nat) (xs : List Int) (h : a < rs.length) : st (upd rs a xs) a = xs := by simp [st, upd, h]
theorem upd_st_ne (rs : List Rt) (a b : Nat) (xs : List Int) (h : a ≠ b) : st (upd rs a xs) b = st rs b := by simp [st, upd, h]
/-! sums over the routes -/
structure Adds (f : List Int → Nat) : Prop where
  add : ∀ x y, f (x ++ y) = f x + f y
  rev : ∀ x, f x.reverse = f x
def Sm (f : List Int → Nat) (rs : List Rt) : Nat := (rs.map fun r => f r.2).sum
theorem Sm_upd (f : List Int → Nat) (rs : List Rt) (xs : List Int) : ∀ a, a < rs.length → Sm f (upd rs a xs) + f (st rs a) = Sm f rs + f xs := by
  unfold Sm upd
  intro a
  generalize tr rs a = q
  revert a
  induction rs with
  | nil => intro a h; simp at h
  | cons r t ih =>
    intro a h
    cases a with
    | zero => simp [st]; omega
    | succ a =>
      have := ih a (by simpa using h)
      simp only [st, List.set_cons_succ, List.map_cons, List.sum_cons, List.getD_cons_succ] at this ⊢
      omega
theorem Sm_le (f : List Int → Nat) (rs : List Rt) : ∀ a, a < rs.length → f (st rs a) ≤ Sm f rs := by
  unfold Sm
  induction rs with
  | nil => intro a h; simp at h
  | cons r t ih =>
    intro a h
    cases a with
    | zero => simp [st]
    | succ a =>
      have := ih a (by simpa using h)
      simp only [st, List.map_cons, List.sum_cons, List.getD_cons_succ] at this ⊢
      omega
theorem Adds.nil {f : List Int → Nat} (hf : Adds f) : f [] = 0 := by
  have := hf.add [] []
  simp at this
  exact this
theorem adds_length : Adds (fun l => l.length) := ⟨fun a b => List.length_append, fun a => List.length_reverse⟩
/-! the appliers, when they are moves -/
theorem tk_split (xs : List Int) (i n : Nat) : xs = xs.take i ++ tkS xs i n ++ xs.drop (i + n) := by
  unfold tkS
  have h := List.take_append_drop (i + n) xs
  have h2 := List.take_append_drop i (xs.take (i + n))
  rw [List.take_take, Nat.min_eq_left (by omega)] at h2
  rw [h2, h]
theorem ch_char {rs : List Rt} {a b i j n : Int} (h : (chS rs a b i j n).1 = true) : 0 ≤ i ∧ i + n ≤ ((st rs a.toNat).length : Int) ∧ 0 ≤ j ∧ j ≤ ((st (upd rs a.toNat (rmv (st rs a.toNat) i.toNat n.toNat)) b.toNat).length : Int) ∧
    (chS rs a b i j n).2 = upd (upd rs a.toNat (rmv (st rs a.toNat) i.toNat n.toNat)) b.toNat (ins (st (upd rs a.toNat (rmv (st rs a.toNat) i.toNat n.toNat)) b.toNat) j.toNat (tkS (st rs a.toNat) i.toNat n.toNat)) := by
  unfold chS at h ⊢
  split at h
  · rename_i c1
    rw [if_pos c1]
    split at h
    · rename_i c2
      rw [if_pos c2]
      exact ⟨c1.1, c1.2, c2.1, c2.2, rfl⟩
    · simp at h
  · simp at h
theorem ch_mk {rs : List Rt} {a b i j n : Int} (h : 0 ≤ i ∧ i + n ≤ ((st rs a.toNat).length : Int) ∧ 0 ≤ j ∧ j ≤ ((st (upd rs a.toNat (rmv (st rs a.toNat) i.toNat n.toNat)) b.toNat).length : Int)) :
    chS rs a b i j n = (true, upd (upd rs a.toNat (rmv (st rs a.toNat) i.toNat n.toNat)) b.toNat (ins (st (upd rs a.toNat (rmv (st rs a.toNat) i.toNat n.toNat)) b.toNat) j.toNat (tkS (st rs a.toNat) i.toNat n.toNat))) := by
  unfold chS
  rw [if_pos ⟨h.1, h.2.1⟩, if_pos (by exact ⟨h.2.2.1, h.2.2.2⟩)]
  rfl
section
variable {f : List Int → Nat} (hf : Adds f)
include hf
theorem f_rmv (xs : List Int) (i n : Nat) : f (rmv xs i n) + f (tkS xs i n) = f xs := by
  have h := congrArg f (tk_split xs i n)
  rw [hf.add, hf.add] at h
  unfold rmv
  rw [hf.add]
  omega
theorem f_ins (xs : List Int) (j : Nat) (ys : List Int) : f (ins xs j ys) = f xs + f ys := by
  unfold ins
  have h := congrArg f (List.take_append_drop j xs)
  rw [hf.add] at h
  rw [hf.add, hf.add]
  omega
theorem f_set (xs : List Int) (y : Int) : ∀ i, i < xs.length → f (xs.set i y) + f [xs.getD i 0] = f xs + f [y] := by
  induction xs with
  | nil => intro i h; simp at h
  | cons x t ih =>
    intro i h
    have e : ∀ (z : Int) (l : List Int), f (z :: l) = f [z] + f l := fun z l => hf.add [z] l
    cases i with
    | zero =>
      simp only [List.set_cons_zero, List.getD_cons_zero]
      rw [e, e x t]
      omega
    | succ i =>
      have := ih i (by simpa using h)
      simp only [List.set_cons_succ, List.getD_cons_succ]
      rw [e x (t.set i y), e x t]
      omega
theorem f_rev (xs : List Int) (i j : Nat) (h : i ≤ j + 1) : f (revS xs i j) = f xs := by
  unfold revS
  have h1 := congrArg f (List.take_append_drop i xs)
  have h2 := congrArg f (List.take_append_drop (j + 1 - i) (xs.drop i))
  rw [hf.add] at h1 h2
  rw [List.drop_drop, show i + (j + 1 - i) = j + 1 by omega] at h2
  rw [hf.add, hf.add, hf.rev]
  omega
theorem do_sum (rs : List Rt) (k a i b j n : Int) (h : (doS rs k a i b j n).1 = true) : Sm f (doS rs k a i b j n).2 = Sm f rs := by
  unfold doS at h ⊢
  split at h
  · rename_i c0
    rw [if_pos c0]
    obtain ⟨⟨ha, hal⟩, ⟨hb, hbl⟩, hk⟩ := c0
    obtain ⟨a, rfl⟩ := Int.eq_ofNat_of_zero_le ha
    obtain ⟨b, rfl⟩ := Int.eq_ofNat_of_zero_le hb
    have hal' : a < rs.length := by omega
    have hbl' : b < rs.length := by omega
    have ch : ∀ n, (chS rs a b i j n).1 = true → Sm f (chS rs a b i j n).2 = Sm f rs := by
      intro n h
      obtain ⟨_, _, _, _, e⟩ := ch_char h
      rw [e]
      simp only [Int.toNat_natCast]
      have h1 := Sm_upd f rs (rmv (st rs a) i.toNat n.toNat) a hal'
      have h2 := Sm_upd f (upd rs a (rmv (st rs a) i.toNat n.toNat)) (ins (st (upd rs a (rmv (st rs a) i.toNat n.toNat)) b) j.toNat (tkS (st rs a) i.toNat n.toNat)) b (by rw [upd_len]; exact hbl')
      rw [f_ins hf] at h2
      have h3 := f_rmv hf (st rs a) i.toNat n.toNat
      omega
    by_cases k1 : k = 1
    · rw [if_pos k1] at h ⊢
      exact ch 1 h
    rw [if_neg k1] at h ⊢
    by_cases k2 : k = 2
    · rw [if_pos k2] at h ⊢
      unfold exS at h ⊢
      split at h
      · rename_i c
        rw [if_pos c]
        simp only [Int.toNat_natCast] at c ⊢
        obtain ⟨hab, hi, hil, hj, hjl⟩ := c
        obtain ⟨i, rfl⟩ := Int.eq_ofNat_of_zero_le hi
        obtain ⟨j, rfl⟩ := Int.eq_ofNat_of_zero_le hj
        simp only [Int.toNat_natCast]
        change Sm f (upd (upd rs a ((st rs a).set i ((st rs b).getD j 0))) b ((st (upd rs a ((st rs a).set i ((st rs b).getD j 0))) b).set j ((st rs a).getD i 0))) = _
        have h1 := Sm_upd f rs ((st rs a).set i ((st rs b).getD j 0)) a hal'
        have h2 := Sm_upd f (upd rs a ((st rs a).set i ((st rs b).getD j 0))) ((st (upd rs a ((st rs a).set i ((st rs b).getD j 0))) b).set j ((st rs a).getD i 0)) b (by rw [upd_len]; exact hbl')
        have h3 := f_set hf (st rs a) ((st rs b).getD j 0) i (by omega)
        have hy : (st (upd rs a ((st rs a).set i ((st rs b).getD j 0))) b).getD j 0 = (st rs b).getD j 0 ∧ j < (st (upd rs a ((st rs a).set i ((st rs b).getD j 0))) b).length := by
          by_cases e : a = b
          · subst e
            rw [upd_st _ _ _ hal']
            have : i ≠ j := by omega
            refine ⟨?_, by simp; omega⟩
            simp [List.getD, List.getElem?_set, this]
          · rw [upd_st_ne _ _ _ _ e]
            exact ⟨rfl, by omega⟩
        have h4 := f_set hf (st (upd rs a ((st rs a).set i ((st rs b).getD j 0))) b) ((st rs a).getD i 0) j hy.2
        rw [hy.1] at h4
        omega
      · simp at h
    rw [if_neg k2] at h ⊢
    by_cases k3 : k = 3
    · rw [if_pos k3] at h ⊢
      split at h
      · rename_i c
        rw [if_pos c]
        exact ch n h
      · simp at h
    rw [if_neg k3] at h ⊢
    by_cases k4 : k = 4
    · rw [if_pos k4] at h ⊢
      unfold taS at h ⊢
      split at h
      · rename_i c
        rw [if_pos c]
        simp only [Int.toNat_natCast] at c ⊢
        obtain ⟨hab, hi, hil, hj, hjl⟩ := c
        change Sm f (upd (upd rs a ((st rs a).take i.toNat ++ (st rs b).drop j.toNat)) b ((st rs b).take j.toNat ++ (st rs a).drop i.toNat)) = _
        have h1 := Sm_upd f rs ((st rs a).take i.toNat ++ (st rs b).drop j.toNat) a hal'
        have h2 := Sm_upd f (upd rs a ((st rs a).take i.toNat ++ (st rs b).drop j.toNat)) ((st rs b).take j.toNat ++ (st rs a).drop i.toNat) b (by rw [upd_len]; exact hbl')
        rw [upd_st_ne _ _ _ _ (by omega)] at h2
        have h3 := congrArg f (List.take_append_drop i.toNat (st rs a))
        have h4 := congrArg f (List.take_append_drop j.toNat (st rs b))
        rw [hf.add] at h1 h2 h3 h4
        omega
      · simp at h
    rw [if_neg k4] at h ⊢
    by_cases k5 : k = 5
    · rw [if_pos k5] at h ⊢
      unfold turnS at h ⊢
      split at h
      · rename_i c
        rw [if_pos c]
        simp only [Int.toNat_natCast] at c ⊢
        change Sm f (upd rs a (revS (st rs a) i.toNat j.toNat)) = _
        have h1 := Sm_upd f rs (revS (st rs a) i.toNat j.toNat) a hal'
        have h2 := f_rev hf (st rs a) i.toNat j.toNat (by omega)
        omega
      · simp at h
    · rw [if_neg k5] at h
      simp at h
  · simp at h
end
/-! there and back -/
theorem ins_rmv (xs : List Int) (i n : Nat) (h : i + n ≤ xs.length) : ins (rmv xs i n) i (tkS xs i n) = xs := by
  have e : (xs.take i).length = i := by simp; omega
  have h2 := tk_split xs i n
  unfold ins rmv
  rw [List.take_append_of_le_length (by omega), List.take_of_length_le (by omega), List.drop_append, List.drop_of_length_le (by omega), e]
  simp only [Nat.sub_self, List.drop_zero, List.nil_append]
  exact h2.symm
theorem tkS_len (xs : List Int) (i n : Nat) (h : i + n ≤ xs.length) : (tkS xs i n).length = n := by
  unfold tkS
  simp
  omega
theorem getD_some (xs : List Int) (i : Nat) (h : i < xs.length) : xs[i]? = some (xs.getD i 0) := by simp [h]
end Go.Proofs.Ytcofibbgdnbejaa.Mv14
