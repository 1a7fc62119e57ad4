/- What a move does to routes, in plain terms: no stop is lost, no truck changes, and behind it its way back is a move. -/
import Derived.Test.YtcofibbgdnbejaaMv13
namespace Go.Proofs.Ytcofibbgdnbejaa.Mv14
open Go.RowKit Go.Proofs.Ytcofibbgdnbejaa.Mv1 Go.Proofs.Ytcofibbgdnbejaa.Mv2 Go.Proofs.Ytcofibbgdnbejaa.Mv3 Go.Proofs.Ytcofibbgdnbejaa.Mv5 Go.Proofs.Ytcofibbgdnbejaa.Mv6 Go.Proofs.Ytcofibbgdnbejaa.Mv7 Go.Proofs.Ytcofibbgdnbejaa.Mv8 Go.Proofs.Ytcofibbgdnbejaa.Mv13
set_option linter.unusedVariables false
set_option linter.unusedSimpArgs false
def upd (rs : List Rt) (a : Nat) (xs : List Int) : List Rt := rs.set a (tr rs a, xs)
def rmv (xs : List Int) (i n : Nat) : List Int := xs.take i ++ xs.drop (i + n)
def ins (xs : List Int) (j : Nat) (ys : List Int) : List Int := xs.take j ++ ys ++ xs.drop j
theorem upd_len (rs : List Rt) (a : Nat) (xs : List Int) : (upd rs a xs).length = rs.length := by simp [upd]
theorem upd_st (rs : List Rt) (a : Nat) (xs : List Int) (h : a < rs.length) : st (upd rs a xs) a = xs := by simp [st, upd, h]
theorem upd_st_ne (rs : List Rt) (a b : Nat) (xs : List Int) (h : a ≠ b) : st (upd rs a xs) b = st rs b := by simp [st, upd, h]
theorem upd_tr (rs : List Rt) (a b : Nat) (xs : List Int) : tr (upd rs a xs) b = tr rs b := by
  unfold tr upd
  by_cases h : a = b
  · subst h
    by_cases hl : a < rs.length
    · simp [hl, tr]
    · rw [List.set_eq_of_length_le (by omega)]
  · simp [h]
theorem ext_rt {r s : List Rt} (hl : r.length = s.length) (h1 : ∀ j, tr r j = tr s j) (h2 : ∀ j, j < r.length → st r j = st s j) : r = s := by
  refine List.ext_getElem hl fun j hj hj' => ?_
  have e1 := h1 j
  have e2 := h2 j hj
  simp only [tr, st, List.getD, List.getElem?_eq_getElem hj, List.getElem?_eq_getElem hj', Option.getD_some] at e1 e2
  exact Prod.ext e1 e2
theorem upd_same (rs : List Rt) (a : Nat) : upd rs a (st rs a) = rs := by
  refine ext_rt (upd_len _ _ _) (fun j => upd_tr _ _ _ _) (fun j hj => ?_)
  by_cases h : a = j
  · subst h
    exact upd_st _ _ _ (by simpa [upd_len] using hj)
  · exact upd_st_ne _ _ _ _ h
/-! sums over the routes -/
structure Adds (f : List Int → Nat) : Prop where
  add : ∀ x y, f (x ++ y) = f x + f y
  rev : ∀ x, f x.reverse = f x
def Sm (f : List Int → Nat) (rs : List Rt) : Nat := (rs.map fun r => f r.2).sum
theorem Sm_upd (f : List Int → Nat) (rs : List Rt) (xs : List Int) : ∀ a, a < rs.length → Sm f (upd rs a xs) + f (st rs a) = Sm f rs + f xs := by
  unfold Sm upd
  intro a
  generalize tr rs a = q
  revert a
  induction rs with
  | nil => intro a h; simp at h
  | cons r t ih =>
    intro a h
    cases a with
    | zero => simp [st]; omega
    | succ a =>
      have := ih a (by simpa using h)
      simp only [st, List.set_cons_succ, List.map_cons, List.sum_cons, List.getD_cons_succ] at this ⊢
      omega
theorem Sm_le (f : List Int → Nat) (rs : List Rt) : ∀ a, a < rs.length → f (st rs a) ≤ Sm f rs := by
  unfold Sm
  induction rs with
  | nil => intro a h; simp at h
  | cons r t ih =>
    intro a h
    cases a with
    | zero => simp [st]
    | succ a =>
      have := ih a (by simpa using h)
      simp only [st, List.map_cons, List.sum_cons, List.getD_cons_succ] at this ⊢
      omega
theorem Adds.nil {f : List Int → Nat} (hf : Adds f) : f [] = 0 := by
  have := hf.add [] []
  simp at this
  exact this
theorem adds_count (x : Int) : Adds (fun l => l.count x) := ⟨fun a b => List.count_append, fun a => by simp [List.count_reverse]⟩
theorem adds_length : Adds (fun l => l.length) := ⟨fun a b => List.length_append, fun a => List.length_reverse⟩
/-! the appliers, when they are moves -/
theorem tk_split (xs : List Int) (i n : Nat) : xs = xs.take i ++ tkS xs i n ++ xs.drop (i + n) := by
  unfold tkS
  have h := List.take_append_drop (i + n) xs
  have h2 := List.take_append_drop i (xs.take (i + n))
  rw [List.take_take, Nat.min_eq_left (by omega)] at h2
  rw [h2, h]
theorem ch_char {rs : List Rt} {a b i j n : Int} (h : (chS rs a b i j n).1 = true) : 0 ≤ i ∧ i + n ≤ ((st rs a.toNat).length : Int) ∧ 0 ≤ j ∧ j ≤ ((st (upd rs a.toNat (rmv (st rs a.toNat) i.toNat n.toNat)) b.toNat).length : Int) ∧
    (chS rs a b i j n).2 = upd (upd rs a.toNat (rmv (st rs a.toNat) i.toNat n.toNat)) b.toNat (ins (st (upd rs a.toNat (rmv (st rs a.toNat) i.toNat n.toNat)) b.toNat) j.toNat (tkS (st rs a.toNat) i.toNat n.toNat)) := by
  unfold chS at h ⊢
  split at h
  · rename_i c1
    rw [if_pos c1]
    split at h
    · rename_i c2
      rw [if_pos c2]
      exact ⟨c1.1, c1.2, c2.1, c2.2, rfl⟩
    · simp at h
  · simp at h
theorem ch_mk {rs : List Rt} {a b i j n : Int} (h : 0 ≤ i ∧ i + n ≤ ((st rs a.toNat).length : Int) ∧ 0 ≤ j ∧ j ≤ ((st (upd rs a.toNat (rmv (st rs a.toNat) i.toNat n.toNat)) b.toNat).length : Int)) :
    chS rs a b i j n = (true, upd (upd rs a.toNat (rmv (st rs a.toNat) i.toNat n.toNat)) b.toNat (ins (st (upd rs a.toNat (rmv (st rs a.toNat) i.toNat n.toNat)) b.toNat) j.toNat (tkS (st rs a.toNat) i.toNat n.toNat))) := by
  unfold chS
  rw [if_pos ⟨h.1, h.2.1⟩, if_pos (by exact ⟨h.2.2.1, h.2.2.2⟩)]
  rfl
section
variable {f : List Int → Nat} (hf : Adds f)
include hf
theorem f_rmv (xs : List Int) (i n : Nat) : f (rmv xs i n) + f (tkS xs i n) = f xs := by
  have h := congrArg f (tk_split xs i n)
  rw [hf.add, hf.add] at h
  unfold rmv
  rw [hf.add]
  omega
theorem f_ins (xs : List Int) (j : Nat) (ys : List Int) : f (ins xs j ys) = f xs + f ys := by
  unfold ins
  have h := congrArg f (List.take_append_drop j xs)
  rw [hf.add] at h
  rw [hf.add, hf.add]
  omega
theorem f_set (xs : List Int) (y : Int) : ∀ i, i < xs.length → f (xs.set i y) + f [xs.getD i 0] = f xs + f [y] := by
  induction xs with
  | nil => intro i h; simp at h
  | cons x t ih =>
    intro i h
    have e : ∀ (z : Int) (l : List Int), f (z :: l) = f [z] + f l := fun z l => hf.add [z] l
    cases i with
    | zero =>
      simp only [List.set_cons_zero, List.getD_cons_zero]
      rw [e, e x t]
      omega
    | succ i =>
      have := ih i (by simpa using h)
      simp only [List.set_cons_succ, List.getD_cons_succ]
      rw [e x (t.set i y), e x t]
      omega
theorem f_rev (xs : List Int) (i j : Nat) (h : i ≤ j + 1) : f (revS xs i j) = f xs := by
  unfold revS
  have h1 := congrArg f (List.take_append_drop i xs)
  have h2 := congrArg f (List.take_append_drop (j + 1 - i) (xs.drop i))
  rw [hf.add] at h1 h2
  rw [List.drop_drop, show i + (j + 1 - i) = j + 1 by omega] at h2
  rw [hf.add, hf.add, hf.rev]
  omega
theorem do_sum (rs : List Rt) (k a i b j n : Int) (h : (doS rs k a i b j n).1 = true) : Sm f (doS rs k a i b j n).2 = Sm f rs := by
  unfold doS at h ⊢
  split at h
  · rename_i c0
    rw [if_pos c0]
    obtain ⟨⟨ha, hal⟩, ⟨hb, hbl⟩, hk⟩ := c0
    obtain ⟨a, rfl⟩ := Int.eq_ofNat_of_zero_le ha
    obtain ⟨b, rfl⟩ := Int.eq_ofNat_of_zero_le hb
    have hal' : a < rs.length := by omega
    have hbl' : b < rs.length := by omega
    have ch : ∀ n, (chS rs a b i j n).1 = true → Sm f (chS rs a b i j n).2 = Sm f rs := by
      intro n h
      obtain ⟨_, _, _, _, e⟩ := ch_char h
      rw [e]
      simp only [Int.toNat_natCast]
      have h1 := Sm_upd f rs (rmv (st rs a) i.toNat n.toNat) a hal'
      have h2 := Sm_upd f (upd rs a (rmv (st rs a) i.toNat n.toNat)) (ins (st (upd rs a (rmv (st rs a) i.toNat n.toNat)) b) j.toNat (tkS (st rs a) i.toNat n.toNat)) b (by rw [upd_len]; exact hbl')
      rw [f_ins hf] at h2
      have h3 := f_rmv hf (st rs a) i.toNat n.toNat
      omega
    by_cases k1 : k = 1
    · rw [if_pos k1] at h ⊢
      exact ch 1 h
    rw [if_neg k1] at h ⊢
    by_cases k2 : k = 2
    · rw [if_pos k2] at h ⊢
      unfold exS at h ⊢
      split at h
      · rename_i c
        rw [if_pos c]
        simp only [Int.toNat_natCast] at c ⊢
        obtain ⟨hab, hi, hil, hj, hjl⟩ := c
        obtain ⟨i, rfl⟩ := Int.eq_ofNat_of_zero_le hi
        obtain ⟨j, rfl⟩ := Int.eq_ofNat_of_zero_le hj
        simp only [Int.toNat_natCast]
        change Sm f (upd (upd rs a ((st rs a).set i ((st rs b).getD j 0))) b ((st (upd rs a ((st rs a).set i ((st rs b).getD j 0))) b).set j ((st rs a).getD i 0))) = _
        have h1 := Sm_upd f rs ((st rs a).set i ((st rs b).getD j 0)) a hal'
        have h2 := Sm_upd f (upd rs a ((st rs a).set i ((st rs b).getD j 0))) ((st (upd rs a ((st rs a).set i ((st rs b).getD j 0))) b).set j ((st rs a).getD i 0)) b (by rw [upd_len]; exact hbl')
        have h3 := f_set hf (st rs a) ((st rs b).getD j 0) i (by omega)
        have hy : (st (upd rs a ((st rs a).set i ((st rs b).getD j 0))) b).getD j 0 = (st rs b).getD j 0 ∧ j < (st (upd rs a ((st rs a).set i ((st rs b).getD j 0))) b).length := by
          by_cases e : a = b
          · subst e
            rw [upd_st _ _ _ hal']
            have : i ≠ j := by omega
            refine ⟨?_, by simp; omega⟩
            simp [List.getD, List.getElem?_set, this]
          · rw [upd_st_ne _ _ _ _ e]
            exact ⟨rfl, by omega⟩
        have h4 := f_set hf (st (upd rs a ((st rs a).set i ((st rs b).getD j 0))) b) ((st rs a).getD i 0) j hy.2
        rw [hy.1] at h4
        omega
      · simp at h
    rw [if_neg k2] at h ⊢
    by_cases k3 : k = 3
    · rw [if_pos k3] at h ⊢
      split at h
      · rename_i c
        rw [if_pos c]
        exact ch n h
      · simp at h
    rw [if_neg k3] at h ⊢
    by_cases k4 : k = 4
    · rw [if_pos k4] at h ⊢
      unfold taS at h ⊢
      split at h
      · rename_i c
        rw [if_pos c]
        simp only [Int.toNat_natCast] at c ⊢
        obtain ⟨hab, hi, hil, hj, hjl⟩ := c
        change Sm f (upd (upd rs a ((st rs a).take i.toNat ++ (st rs b).drop j.toNat)) b ((st rs b).take j.toNat ++ (st rs a).drop i.toNat)) = _
        have h1 := Sm_upd f rs ((st rs a).take i.toNat ++ (st rs b).drop j.toNat) a hal'
        have h2 := Sm_upd f (upd rs a ((st rs a).take i.toNat ++ (st rs b).drop j.toNat)) ((st rs b).take j.toNat ++ (st rs a).drop i.toNat) b (by rw [upd_len]; exact hbl')
        rw [upd_st_ne _ _ _ _ (by omega)] at h2
        have h3 := congrArg f (List.take_append_drop i.toNat (st rs a))
        have h4 := congrArg f (List.take_append_drop j.toNat (st rs b))
        rw [hf.add] at h1 h2 h3 h4
        omega
      · simp at h
    rw [if_neg k4] at h ⊢
    by_cases k5 : k = 5
    · rw [if_pos k5] at h ⊢
      unfold turnS at h ⊢
      split at h
      · rename_i c
        rw [if_pos c]
        simp only [Int.toNat_natCast] at c ⊢
        change Sm f (upd rs a (revS (st rs a) i.toNat j.toNat)) = _
        have h1 := Sm_upd f rs (revS (st rs a) i.toNat j.toNat) a hal'
        have h2 := f_rev hf (st rs a) i.toNat j.toNat (by omega)
        omega
      · simp at h
    · rw [if_neg k5] at h
      simp at h
  · simp at h
end
theorem do_tr (rs : List Rt) (k a i b j n : Int) (q : Nat) : tr (doS rs k a i b j n).2 q = tr rs q := by
  have hs : ∀ (r : List Rt) (c : Nat) (x : List Int), tr (r.set c (tr r c, x)) q = tr r q := fun r c x => upd_tr r c q x
  unfold doS chS exS taS turnS
  simp only []
  repeat' split
  all_goals simp only [hs]
/-! there and back -/
theorem rmv_ins (ys : List Int) (j : Nat) (t : List Int) (h : j ≤ ys.length) : rmv (ins ys j t) j t.length = ys ∧ tkS (ins ys j t) j t.length = t := by
  unfold rmv ins tkS
  have e : (ys.take j).length = j := by simp; omega
  constructor
  · rw [List.append_assoc, List.take_append_of_le_length (by omega), List.take_of_length_le (by omega), ← List.append_assoc, List.drop_append, List.drop_of_length_le (by simp; omega)]
    simp [e]
  · rw [List.take_append_of_le_length (by simp; omega), List.take_of_length_le (by simp; omega), List.drop_append, List.drop_of_length_le (by omega)]
    simp [e]
theorem ins_rmv (xs : List Int) (i n : Nat) (h : i + n ≤ xs.length) : ins (rmv xs i n) i (tkS xs i n) = xs := by
  have e : (xs.take i).length = i := by simp; omega
  have h2 := tk_split xs i n
  unfold ins rmv
  rw [List.take_append_of_le_length (by omega), List.take_of_length_le (by omega), List.drop_append, List.drop_of_length_le (by omega), e]
  simp only [Nat.sub_self, List.drop_zero, List.nil_append]
  exact h2.symm
theorem tkS_len (xs : List Int) (i n : Nat) (h : i + n ≤ xs.length) : (tkS xs i n).length = n := by
  unfold tkS
  simp
  omega
theorem ch_back (rs : List Rt) (a b i j n : Int) (ha : 0 ≤ a ∧ a < (rs.length : Int)) (hb : 0 ≤ b ∧ b < (rs.length : Int)) (hn : 0 ≤ n) (h : (chS rs a b i j n).1 = true) : chS (chS rs a b i j n).2 b a j i n = (true, rs) := by
  obtain ⟨h1, h2, h3, h4, e⟩ := ch_char h
  rw [e]
  clear e h
  obtain ⟨a, rfl⟩ := Int.eq_ofNat_of_zero_le ha.1
  obtain ⟨b, rfl⟩ := Int.eq_ofNat_of_zero_le hb.1
  obtain ⟨i, rfl⟩ := Int.eq_ofNat_of_zero_le h1
  obtain ⟨j, rfl⟩ := Int.eq_ofNat_of_zero_le h3
  obtain ⟨n, rfl⟩ := Int.eq_ofNat_of_zero_le hn
  simp only [Int.toNat_natCast] at h2 h4 ⊢
  have hal : a < rs.length := by omega
  have hbl : b < rs.length := by omega
  have hin : i + n ≤ (st rs a).length := by omega
  obtain ⟨T, hT⟩ : ∃ T, T = tkS (st rs a) i n := ⟨_, rfl⟩
  have hTl : T.length = n := by rw [hT]; exact tkS_len _ _ _ hin
  obtain ⟨r1, hr1⟩ : ∃ r1, r1 = upd rs a (rmv (st rs a) i n) := ⟨_, rfl⟩
  rw [← hr1] at h4 ⊢
  rw [← hT]
  have l1 : r1.length = rs.length := by rw [hr1, upd_len]
  have hj : j ≤ (st r1 b).length := by omega
  obtain ⟨r2, hr2⟩ : ∃ r2, r2 = upd r1 b (ins (st r1 b) j T) := ⟨_, rfl⟩
  rw [← hr2]
  have sb : st r2 b = ins (st r1 b) j T := by rw [hr2]; exact upd_st _ _ _ (by omega)
  have hri := rmv_ins (st r1 b) j T hj
  rw [hTl] at hri
  have hlen : (st r2 b).length = (st r1 b).length + n := by rw [sb, f_ins adds_length, hTl]
  have back : upd r2 b (rmv (st r2 b) j n) = r1 := by
    rw [sb, hri.1]
    refine ext_rt (by rw [upd_len, hr2, upd_len]) (fun q => by rw [upd_tr, hr2, upd_tr]) (fun q hq => ?_)
    by_cases c : b = q
    · subst c
      exact upd_st _ _ _ (by rw [hr2, upd_len]; omega)
    · rw [upd_st_ne _ _ _ _ c, hr2, upd_st_ne _ _ _ _ c]
  have sa : st r1 a = rmv (st rs a) i n := by rw [hr1]; exact upd_st _ _ _ hal
  have hla : (st r1 a).length + n = (st rs a).length := by
    rw [sa]
    have := f_rmv adds_length (st rs a) i n
    rw [← hT, hTl] at this
    exact this
  rw [ch_mk (rs := r2) (a := (b : Int)) (b := (a : Int)) (i := (j : Int)) (j := (i : Int)) (n := (n : Int)) (by
    simp only [Int.toNat_natCast]
    rw [back]
    omega)]
  simp only [Int.toNat_natCast]
  rw [back, sb, hri.2, sa, hT, ins_rmv _ _ _ hin]
  refine Prod.ext rfl ?_
  refine ext_rt (by rw [upd_len, l1]) (fun q => by rw [upd_tr, hr1, upd_tr]) (fun q hq => ?_)
  by_cases c : a = q
  · subst c
    exact upd_st _ _ _ (by omega)
  · rw [upd_st_ne _ _ _ _ c, hr1, upd_st_ne _ _ _ _ c]
theorem set2 (xs : List Int) (i j : Nat) (hij : i ≠ j) (x y : Int) (hx : xs[i]? = some x) (hy : xs[j]? = some y) : (((xs.set i y).set j x).set i x).set j y = xs := by
  refine List.ext_getElem? fun q => ?_
  simp only [List.getElem?_set, List.length_set]
  have hi : i < xs.length := by
    rcases Nat.lt_or_ge i xs.length with h | h
    · exact h
    · rw [List.getElem?_eq_none h] at hx
      cases hx
  have hj : j < xs.length := by
    rcases Nat.lt_or_ge j xs.length with h | h
    · exact h
    · rw [List.getElem?_eq_none h] at hy
      cases hy
  have hy' : xs[j] = y := by simpa [hj] using hy
  have hx' : xs[i] = x := by simpa [hi] using hx
  by_cases c : j = q
  · subst c
    simp [hj, hy']
  · by_cases d : i = q
    · subst d
      simp [c, hi, hx']
    · simp [c, d]
theorem getD_some (xs : List Int) (i : Nat) (h : i < xs.length) : xs[i]? = some (xs.getD i 0) := by simp [h]
theorem set_back (xs : List Int) (i : Nat) (y : Int) (h : i < xs.length) : (xs.set i y).set i (xs.getD i 0) = xs := by
  refine List.ext_getElem? fun q => ?_
  simp only [List.getElem?_set, List.length_set]
  by_cases c : i = q
  · subst c
    simp [h]
  · simp [c]
theorem ex_char {rs : List Rt} {a b i j : Int} (h : (exS rs a b i j).1 = true) : ((a < b ∨ a = b ∧ i < j) ∧ 0 ≤ i ∧ i < ((st rs a.toNat).length : Int) ∧ 0 ≤ j ∧ j < ((st rs b.toNat).length : Int)) ∧
    (exS rs a b i j).2 = upd (upd rs a.toNat ((st rs a.toNat).set i.toNat ((st rs b.toNat).getD j.toNat 0))) b.toNat ((st (upd rs a.toNat ((st rs a.toNat).set i.toNat ((st rs b.toNat).getD j.toNat 0))) b.toNat).set j.toNat ((st rs a.toNat).getD i.toNat 0)) := by
  unfold exS at h ⊢
  split at h
  · rename_i c
    rw [if_pos c]
    exact ⟨c, rfl⟩
  · simp at h
theorem ex_mk {rs : List Rt} {a b i j : Int} (h : (a < b ∨ a = b ∧ i < j) ∧ 0 ≤ i ∧ i < ((st rs a.toNat).length : Int) ∧ 0 ≤ j ∧ j < ((st rs b.toNat).length : Int)) :
    exS rs a b i j = (true, upd (upd rs a.toNat ((st rs a.toNat).set i.toNat ((st rs b.toNat).getD j.toNat 0))) b.toNat ((st (upd rs a.toNat ((st rs a.toNat).set i.toNat ((st rs b.toNat).getD j.toNat 0))) b.toNat).set j.toNat ((st rs a.toNat).getD i.toNat 0))) := by
  unfold exS
  rw [if_pos h]
  rfl
theorem ex_back (rs : List Rt) (a b i j : Int) (ha : 0 ≤ a ∧ a < (rs.length : Int)) (hb : 0 ≤ b ∧ b < (rs.length : Int)) (h : (exS rs a b i j).1 = true) : exS (exS rs a b i j).2 a b i j = (true, rs) := by
  obtain ⟨⟨h0, h1, h2, h3, h4⟩, e⟩ := ex_char h
  rw [e]
  clear e h
  obtain ⟨a, rfl⟩ := Int.eq_ofNat_of_zero_le ha.1
  obtain ⟨b, rfl⟩ := Int.eq_ofNat_of_zero_le hb.1
  obtain ⟨i, rfl⟩ := Int.eq_ofNat_of_zero_le h1
  obtain ⟨j, rfl⟩ := Int.eq_ofNat_of_zero_le h3
  simp only [Int.toNat_natCast] at h2 h4 ⊢
  have hal : a < rs.length := by omega
  have hbl : b < rs.length := by omega
  have hil : i < (st rs a).length := by omega
  have hjl : j < (st rs b).length := by omega
  by_cases c : a = b
  · subst c
    have hij : i < j := by omega
    rw [upd_st _ _ _ hal]
    obtain ⟨r2, hr2⟩ : ∃ r2, r2 = upd (upd rs a ((st rs a).set i ((st rs a).getD j 0))) a (((st rs a).set i ((st rs a).getD j 0)).set j ((st rs a).getD i 0)) := ⟨_, rfl⟩
    rw [← hr2]
    have l2 : r2.length = rs.length := by rw [hr2, upd_len, upd_len]
    have s2 : st r2 a = ((st rs a).set i ((st rs a).getD j 0)).set j ((st rs a).getD i 0) := by rw [hr2]; exact upd_st _ _ _ (by rw [upd_len]; exact hal)
    rw [ex_mk (rs := r2) (a := (a : Int)) (b := (a : Int)) (i := (i : Int)) (j := (j : Int)) (by simp only [Int.toNat_natCast]; rw [s2]; simp only [List.length_set]; exact ⟨Or.inr ⟨trivial, by omega⟩, by omega, by omega, by omega, by omega⟩)]
    simp only [Int.toNat_natCast]
    have g1 : (st r2 a).getD i 0 = (st rs a).getD j 0 := by
      rw [s2]
      simp [List.getD, List.getElem?_set, show j ≠ i by omega, hil]
    have g2 : (st r2 a).getD j 0 = (st rs a).getD i 0 := by
      rw [s2]
      simp [List.getD, List.getElem?_set, hjl]
    rw [upd_st r2 a _ (by omega), g1, g2, s2, set2 _ _ _ (by omega) _ _ (getD_some _ _ hil) (getD_some _ _ hjl)]
    refine Prod.ext rfl ?_
    refine ext_rt (by rw [upd_len, upd_len, l2]) (fun q => by rw [upd_tr, upd_tr, hr2, upd_tr, upd_tr]) (fun q hq => ?_)
    by_cases d : a = q
    · subst d
      exact upd_st _ _ _ (by rw [upd_len]; omega)
    · rw [upd_st_ne _ _ _ _ d, upd_st_ne _ _ _ _ d, hr2, upd_st_ne _ _ _ _ d, upd_st_ne _ _ _ _ d]
  · have hab : a < b := by omega
    rw [upd_st_ne _ _ _ _ c]
    obtain ⟨r2, hr2⟩ : ∃ r2, r2 = upd (upd rs a ((st rs a).set i ((st rs b).getD j 0))) b ((st rs b).set j ((st rs a).getD i 0)) := ⟨_, rfl⟩
    rw [← hr2]
    have l2 : r2.length = rs.length := by rw [hr2, upd_len, upd_len]
    have sb : st r2 b = (st rs b).set j ((st rs a).getD i 0) := by rw [hr2]; exact upd_st _ _ _ (by rw [upd_len]; exact hbl)
    have sa : st r2 a = (st rs a).set i ((st rs b).getD j 0) := by rw [hr2, upd_st_ne _ _ _ _ (Ne.symm c)]; exact upd_st _ _ _ hal
    rw [ex_mk (rs := r2) (a := (a : Int)) (b := (b : Int)) (i := (i : Int)) (j := (j : Int)) (by simp only [Int.toNat_natCast]; rw [sa, sb]; simp only [List.length_set]; omega)]
    simp only [Int.toNat_natCast]
    have g1 : (st r2 a).getD i 0 = (st rs b).getD j 0 := by
      rw [sa]
      simp [List.getD, List.getElem?_set, hil]
    have g2 : (st r2 b).getD j 0 = (st rs a).getD i 0 := by
      rw [sb]
      simp [List.getD, List.getElem?_set, hjl]
    rw [upd_st_ne _ _ _ _ c, g1, g2, sa, sb, set_back _ _ _ hil, set_back _ _ _ hjl]
    refine Prod.ext rfl ?_
    refine ext_rt (by rw [upd_len, upd_len, l2]) (fun q => by rw [upd_tr, upd_tr, hr2, upd_tr, upd_tr]) (fun q hq => ?_)
    by_cases d : b = q
    · subst d
      exact upd_st _ _ _ (by rw [upd_len]; omega)
    · rw [upd_st_ne _ _ _ _ d]
      by_cases d' : a = q
      · subst d'
        exact upd_st _ _ _ (by omega)
      · rw [upd_st_ne _ _ _ _ d', hr2, upd_st_ne _ _ _ _ d, upd_st_ne _ _ _ _ d']
theorem ta_back (rs : List Rt) (a b i j : Int) (ha : 0 ≤ a ∧ a < (rs.length : Int)) (hb : 0 ≤ b ∧ b < (rs.length : Int)) (h : (taS rs a b i j).1 = true) : taS (taS rs a b i j).2 a b i j = (true, rs) := by
  have hc : a < b ∧ 0 ≤ i ∧ i ≤ ((st rs a.toNat).length : Int) ∧ 0 ≤ j ∧ j ≤ ((st rs b.toNat).length : Int) := by
    unfold taS at h
    split at h
    · rename_i c
      exact c
    · simp at h
  have mk : ∀ rs : List Rt, (a < b ∧ 0 ≤ i ∧ i ≤ ((st rs a.toNat).length : Int) ∧ 0 ≤ j ∧ j ≤ ((st rs b.toNat).length : Int)) → taS rs a b i j = (true, upd (upd rs a.toNat ((st rs a.toNat).take i.toNat ++ (st rs b.toNat).drop j.toNat)) b.toNat ((st rs b.toNat).take j.toNat ++ (st rs a.toNat).drop i.toNat)) := by
    intro rs h
    unfold taS
    rw [if_pos h]
    rfl
  rw [mk rs hc]
  clear h
  obtain ⟨h0, h1, h2, h3, h4⟩ := hc
  obtain ⟨a, rfl⟩ := Int.eq_ofNat_of_zero_le ha.1
  obtain ⟨b, rfl⟩ := Int.eq_ofNat_of_zero_le hb.1
  obtain ⟨i, rfl⟩ := Int.eq_ofNat_of_zero_le h1
  obtain ⟨j, rfl⟩ := Int.eq_ofNat_of_zero_le h3
  simp only [Int.toNat_natCast] at h2 h4 mk ⊢
  have hal : a < rs.length := by omega
  have hbl : b < rs.length := by omega
  have c : a ≠ b := by omega
  obtain ⟨r2, hr2⟩ : ∃ r2, r2 = upd (upd rs a ((st rs a).take i ++ (st rs b).drop j)) b ((st rs b).take j ++ (st rs a).drop i) := ⟨_, rfl⟩
  rw [← hr2]
  have l2 : r2.length = rs.length := by rw [hr2, upd_len, upd_len]
  have sb : st r2 b = (st rs b).take j ++ (st rs a).drop i := by rw [hr2]; exact upd_st _ _ _ (by rw [upd_len]; exact hbl)
  have sa : st r2 a = (st rs a).take i ++ (st rs b).drop j := by rw [hr2, upd_st_ne _ _ _ _ (Ne.symm c)]; exact upd_st _ _ _ hal
  have ei : ((st rs a).take i).length = i := by simp; omega
  have ej : ((st rs b).take j).length = j := by simp; omega
  rw [mk r2 (by rw [sa, sb]; simp only [List.length_append, List.length_take, List.length_drop]; omega), sa, sb]
  have t1 : ∀ (x y z u : List Int) (p q : Nat), x.length = p → z.length = q → (x ++ y).take p ++ (z ++ u).drop q = x ++ u := by
    intro x y z u p q hp hq
    subst hp hq
    simp
  rw [t1 _ _ _ _ _ _ ei ej, t1 _ _ _ _ _ _ ej ei, List.take_append_drop, List.take_append_drop]
  refine Prod.ext rfl ?_
  refine ext_rt (by rw [upd_len, upd_len, l2]) (fun q => by rw [upd_tr, upd_tr, hr2, upd_tr, upd_tr]) (fun q hq => ?_)
  by_cases d : b = q
  · subst d
    exact upd_st _ _ _ (by rw [upd_len]; omega)
  · rw [upd_st_ne _ _ _ _ d]
    by_cases d' : a = q
    · subst d'
      exact upd_st _ _ _ (by omega)
    · rw [upd_st_ne _ _ _ _ d', hr2, upd_st_ne _ _ _ _ d, upd_st_ne _ _ _ _ d']
theorem rev_back (xs : List Int) (i j : Nat) (h : i < j) (hj : j < xs.length) : revS (revS xs i j) i j = xs := by
  unfold revS
  have e1 : (xs.take i).length = i := by simp; omega
  have e2 : ((xs.drop i).take (j + 1 - i)).reverse.length = j + 1 - i := by simp; omega
  obtain ⟨A, hA⟩ : ∃ A, A = xs.take i := ⟨_, rfl⟩
  obtain ⟨B, hB⟩ : ∃ B, B = ((xs.drop i).take (j + 1 - i)) := ⟨_, rfl⟩
  obtain ⟨C, hC⟩ : ∃ C, C = xs.drop (j + 1) := ⟨_, rfl⟩
  have hx : xs = A ++ B ++ C := by
    have h1 := List.take_append_drop i xs
    have h2 := List.take_append_drop (j + 1 - i) (xs.drop i)
    rw [List.drop_drop, show i + (j + 1 - i) = j + 1 by omega] at h2
    rw [hA, hB, hC, List.append_assoc, h2, h1]
  rw [← hA, ← hB, ← hC]
  rw [← hA] at e1
  rw [← hB, List.length_reverse] at e2
  have d1 : (A ++ B.reverse ++ C).take i = A := by
    rw [List.append_assoc, List.take_append_of_le_length (by omega), List.take_of_length_le (by omega)]
  have d2 : (A ++ B.reverse ++ C).drop i = B.reverse ++ C := by
    rw [List.append_assoc, List.drop_append, List.drop_of_length_le (by omega), e1]
    simp
  have d3 : (A ++ B.reverse ++ C).drop (j + 1) = C := by
    rw [List.drop_append, List.drop_of_length_le (by simp; omega), show j + 1 - (A ++ B.reverse).length = 0 by simp; omega]
    simp
  rw [d1, d2, d3, List.take_append_of_le_length (by simp; omega), List.take_of_length_le (by simp; omega), List.reverse_reverse]
  exact hx.symm
theorem turn_back (rs : List Rt) (a b i j : Int) (ha : 0 ≤ a ∧ a < (rs.length : Int)) (h : (turnS rs a b i j).1 = true) : turnS (turnS rs a b i j).2 a b i j = (true, rs) := by
  have hc : a = b ∧ 0 ≤ i ∧ i < j ∧ j < ((st rs a.toNat).length : Int) := by
    unfold turnS at h
    split at h
    · rename_i c
      exact c
    · simp at h
  have mk : ∀ rs : List Rt, (a = b ∧ 0 ≤ i ∧ i < j ∧ j < ((st rs a.toNat).length : Int)) → turnS rs a b i j = (true, upd rs a.toNat (revS (st rs a.toNat) i.toNat j.toNat)) := by
    intro rs h
    unfold turnS
    rw [if_pos h]
    rfl
  rw [mk rs hc]
  have hal : a.toNat < rs.length := by omega
  have l := f_rev adds_length (st rs a.toNat) i.toNat j.toNat (by omega)
  rw [mk _ (by rw [upd_st _ _ _ hal, show (revS (st rs a.toNat) i.toNat j.toNat).length = (st rs a.toNat).length from l]; exact hc), upd_st _ _ _ hal, rev_back _ _ _ (by omega) (by omega)]
  refine Prod.ext rfl ?_
  refine ext_rt (by rw [upd_len, upd_len]) (fun q => by rw [upd_tr, upd_tr]) (fun q hq => ?_)
  by_cases d : a.toNat = q
  · subst d
    exact upd_st _ _ _ (by rw [upd_len]; omega)
  · rw [upd_st_ne _ _ _ _ d, upd_st_ne _ _ _ _ d]
theorem do_back (rs : List Rt) (k a i b j n : Int) (h : (doS rs k a i b j n).1 = true) : (k = 1 ∨ k = 3 → doS (doS rs k a i b j n).2 k b j a i n = (true, rs)) ∧ (¬ (k = 1 ∨ k = 3) → doS (doS rs k a i b j n).2 k a i b j n = (true, rs)) := by
  have hl := doS_len rs k a i b j n
  obtain ⟨r2, hr2⟩ : ∃ r2, r2 = (doS rs k a i b j n).2 := ⟨_, rfl⟩
  rw [← hr2] at hl ⊢
  unfold doS at h hr2
  split at h
  · rename_i c0
    rw [if_pos c0] at hr2
    obtain ⟨ha, hb, hk⟩ := c0
    constructor
    · intro hk2
      unfold doS
      rw [if_pos ⟨by omega, by omega, by omega⟩]
      rcases hk2 with rfl | rfl
      · rw [if_pos rfl] at h hr2 ⊢
        rw [hr2]
        exact ch_back rs a b i j 1 ha hb (by decide) h
      · rw [if_neg (by decide), if_neg (by decide), if_pos rfl] at h hr2 ⊢
        split at h
        · rename_i c
          rw [if_pos c] at hr2 ⊢
          rw [hr2]
          exact ch_back rs a b i j n ha hb (by omega) h
        · simp at h
    · intro hk2
      have k1 : ¬ k = 1 := fun e => hk2 (.inl e)
      have k3 : ¬ k = 3 := fun e => hk2 (.inr e)
      unfold doS
      rw [if_pos ⟨by omega, by omega, by omega⟩]
      rw [if_neg k1] at h hr2 ⊢
      by_cases k2 : k = 2
      · rw [if_pos k2] at h hr2 ⊢
        rw [hr2]
        exact ex_back rs a b i j ha hb h
      rw [if_neg k2, if_neg k3] at h hr2 ⊢
      by_cases k4 : k = 4
      · rw [if_pos k4] at h hr2 ⊢
        rw [hr2]
        exact ta_back rs a b i j ha hb h
      rw [if_neg k4] at h hr2 ⊢
      by_cases k5 : k = 5
      · rw [if_pos k5] at h hr2 ⊢
        rw [hr2]
        exact turn_back rs a b i j ha h
      · rw [if_neg k5] at h
        simp at h
  · simp at h
end Go.Proofs.Ytcofibbgdnbejaa.Mv14
