/- A heap's steps keep the heap's order and its items; the first item is the least one. Plain lists. -/
import Derived.Test.YtojaflnejkbjnaaHp6
namespace Go.Proofs.Ytojaflnejkbjnaa.Hp9
open Go.Proofs.Ytojaflnejkbjnaa.Hp1 Go.Proofs.Ytojaflnejkbjnaa.Hp2 Go.Proofs.Ytojaflnejkbjnaa.Hp3 Go.Proofs.Ytojaflnejkbjnaa.Hp5 Go.Proofs.Ytojaflnejkbjnaa.Hp6
set_option linter.unusedVariables false
set_option linter.unusedSimpArgs false
theorem lt_asymm {x y : It} (h : lt3 x y = true) : lt3 y x = false := by
  obtain ⟨x0, x1, x2⟩ := x
  obtain ⟨y0, y1, y2⟩ := y
  simp only [lt3] at h ⊢
  split at h <;> (try split at h) <;> simp only [decide_eq_true_eq] at h <;> (repeat' split) <;> simp only [decide_eq_false_iff_not] <;> omega
theorem lt_irr (x : It) : lt3 x x = false := by
  simp [lt3]
theorem le_trans3 {x y z : It} (h1 : lt3 y x = false) (h2 : lt3 z y = false) : lt3 z x = false := by
  obtain ⟨x0, x1, x2⟩ := x
  obtain ⟨y0, y1, y2⟩ := y
  obtain ⟨z0, z1, z2⟩ := z
  simp only [lt3] at h1 h2 ⊢
  split at h1 <;> (try split at h1) <;> simp only [decide_eq_false_iff_not] at h1 <;> split at h2 <;> (try split at h2) <;> simp only [decide_eq_false_iff_not] at h2 <;> (repeat' split) <;> simp only [decide_eq_false_iff_not] <;> omega
theorem le_antisymm3 {x y : It} (h1 : lt3 y x = false) (h2 : lt3 x y = false) : x = y := by
  obtain ⟨x0, x1, x2⟩ := x
  obtain ⟨y0, y1, y2⟩ := y
  simp only [lt3] at h1 h2
  split at h1 <;> (try split at h1) <;> simp only [decide_eq_false_iff_not] at h1 <;> split at h2 <;> (try split at h2) <;> simp only [decide_eq_false_iff_not] at h2 <;> simp only [Prod.mk.injEq] <;> omega
theorem ri_get {xs : List It} {i : Nat} (h : i < xs.length) : ri xs i = xs[i] := by
  unfold ri
  simp [h]
theorem ri_swp {xs : List It} {i k : Nat} (hi : i < xs.length) (hk : k < xs.length) (q : Nat) : ri (swp xs i k) q = if q = k then ri xs i else if q = i then ri xs k else ri xs q := by
  unfold swp ri
  simp only [List.getD_eq_getElem?_getD, List.getElem?_set, List.length_set]
  by_cases h1 : q = k
  · subst h1
    simp [hk]
  · rw [if_neg (fun e => h1 e.symm), if_neg h1]
    by_cases h2 : q = i
    · subst h2
      simp [hi]
    · rw [if_neg (fun e => h2 e.symm), if_neg h2]
theorem swp_perm {xs : List It} {i k : Nat} (hi : i < xs.length) (hk : k < xs.length) : (swp xs i k).Perm xs := by
  unfold swp
  rw [ri_get hi, ri_get hk]
  exact List.set_set_perm hi hk
/-- Where a parent is no lesser than a, no item comes ahead of its parent. -/
def HpF (a n : Nat) (xs : List It) : Prop := ∀ k, 0 < k → k < n → a ≤ (k - 1) / 2 → lt3 (ri xs k) (ri xs ((k - 1) / 2)) = false
theorem dn_perm (n : Nat) : ∀ (d i : Nat) (xs : List It), n - i ≤ d → n ≤ xs.length → (dnL n xs i).Perm xs := by
  intro d
  induction d with
  | zero => intro i xs h hn; rw [dnL_e (by omega)]
  | succ d ih =>
    intro i xs h hn
    by_cases c : 2 * i + 1 < n
    · obtain ⟨j, hj⟩ : ∃ j, chi n xs i = j := ⟨_, rfl⟩
      have h1 := chi_gt n xs i
      have h2 := chi_lt (xs := xs) c
      rw [hj] at h1 h2
      cases hl : lt3 (ri xs j) (ri xs i) with
      | true =>
        rw [dnL_y c hj hl]
        exact (ih j _ (by omega) (by rw [swp_len]; exact hn)).trans (swp_perm (by omega) (by omega))
      | false => rw [dnL_n c hj hl]
    · rw [dnL_e (by omega)]
theorem dn_far (n : Nat) : ∀ (d i : Nat) (xs : List It), n - i ≤ d → n ≤ xs.length → ∀ q, n ≤ q → i < n ∨ n = 0 → ri (dnL n xs i) q = ri xs q := by
  intro d
  induction d with
  | zero => intro i xs h hn q hq hi; rw [dnL_e (by omega)]
  | succ d ih =>
    intro i xs h hn q hq hi
    by_cases c : 2 * i + 1 < n
    · obtain ⟨j, hj⟩ : ∃ j, chi n xs i = j := ⟨_, rfl⟩
      have h1 := chi_gt n xs i
      have h2 := chi_lt (xs := xs) c
      rw [hj] at h1 h2
      cases hl : lt3 (ri xs j) (ri xs i) with
      | true =>
        rw [dnL_y c hj hl, ih j _ (by omega) (by rw [swp_len]; exact hn) q hq (.inl h2), ri_swp (by omega) (by omega), if_neg (by omega), if_neg (by omega)]
      | false => rw [dnL_n c hj hl]
    · rw [dnL_e (by omega)]
/-- The lesser child. -/
theorem chi_spec {n : Nat} {xs : List It} {i j : Nat} (hj : chi n xs i = j) (c : 2 * i + 1 < n) : ((j = 2 * i + 1 ∨ j = 2 * i + 2) ∧ j < n) ∧ ∀ k, 0 < k → k < n → (k - 1) / 2 = i → lt3 (ri xs k) (ri xs j) = false := by
  have h2 := chi_lt (xs := xs) c
  rw [hj] at h2
  unfold chi at hj
  split at hj
  · rename_i h
    subst hj
    refine ⟨⟨.inr rfl, h2⟩, fun k h0 hk hp => ?_⟩
    obtain rfl | rfl : k = 2 * i + 1 ∨ k = 2 * i + 2 := by omega
    · exact lt_asymm h.2
    · exact lt_irr _
  · rename_i h
    subst hj
    refine ⟨⟨.inl rfl, h2⟩, fun k h0 hk hp => ?_⟩
    obtain rfl | rfl : k = 2 * i + 1 ∨ k = 2 * i + 2 := by omega
    · exact lt_irr _
    · cases e : lt3 (ri xs (2 * i + 2)) (ri xs (2 * i + 1)) with
      | false => rfl
      | true => exact absurd ⟨hk, e⟩ h
theorem dn_heap (a n : Nat) : ∀ (d i : Nat) (xs : List It), n - i ≤ d → n ≤ xs.length → a ≤ i →
    (∀ k, 0 < k → k < n → a ≤ (k - 1) / 2 → (k - 1) / 2 ≠ i → lt3 (ri xs k) (ri xs ((k - 1) / 2)) = false) →
    (∀ k, 0 < k → k < n → (k - 1) / 2 = i → 0 < i → a ≤ (i - 1) / 2 → lt3 (ri xs k) (ri xs ((i - 1) / 2)) = false) → HpF a n (dnL n xs i) := by
  intro d
  induction d with
  | zero =>
    intro i xs h hn ha h1 h2
    rw [dnL_e (by omega)]
    intro k h0 hk hp
    exact h1 k h0 hk hp (by omega)
  | succ d ih =>
    intro i xs h hn ha h1 h2
    by_cases c : 2 * i + 1 < n
    · obtain ⟨j, hj⟩ : ∃ j, chi n xs i = j := ⟨_, rfl⟩
      obtain ⟨⟨hj1, hj2⟩, hj3⟩ := chi_spec hj c
      cases hl : lt3 (ri xs j) (ri xs i) with
      | true =>
        rw [dnL_y c hj hl]
        have hr := ri_swp (xs := xs) (i := i) (k := j) (by omega) (by omega)
        refine ih j _ (by omega) (by rw [swp_len]; exact hn) (by omega) ?_ ?_
        · intro k h0 hk hp hne
          rw [hr, hr]
          by_cases e1 : k = j
          · subst e1
            rw [if_pos rfl, show (k - 1) / 2 = i by omega, if_neg (by omega), if_pos rfl]
            exact lt_asymm hl
          · rw [if_neg e1, if_neg hne]
            by_cases e2 : k = i
            · subst e2
              rw [if_pos rfl, if_neg (by omega)]
              exact h2 j (by omega) hj2 (by omega) h0 hp
            · rw [if_neg e2]
              by_cases e3 : (k - 1) / 2 = i
              · rw [if_pos e3]
                exact hj3 k h0 hk e3
              · rw [if_neg e3]
                exact h1 k h0 hk hp e3
        · intro k h0 hk hp hi hp2
          rw [hr, hr, show (j - 1) / 2 = i by omega, if_neg (by omega), if_neg (by omega), if_neg (by omega), if_pos rfl]
          have := h1 k h0 hk (by omega) (by omega)
          rw [hp] at this
          exact this
      | false =>
        rw [dnL_n c hj hl]
        intro k h0 hk hp
        by_cases e : (k - 1) / 2 = i
        · rw [e]
          exact le_trans3 hl (hj3 k h0 hk e)
        · exact h1 k h0 hk hp e
    · rw [dnL_e (by omega)]
      intro k h0 hk hp
      exact h1 k h0 hk hp (by omega)
theorem ini_perm (n : Nat) : ∀ (k : Nat) (xs : List It), n ≤ xs.length → (iniL n k xs).Perm xs := by
  intro k
  induction k with
  | zero => intro xs h; rw [iniL]
  | succ k ih =>
    intro xs h
    rw [iniL]
    exact (ih _ (by rw [dnL_len]; exact h)).trans (dn_perm n _ _ _ (Nat.le_refl _) h)
theorem ini_heap (n : Nat) : ∀ (k : Nat) (xs : List It), n ≤ xs.length → HpF k n xs → HpF 0 n (iniL n k xs) := by
  intro k
  induction k with
  | zero => intro xs h hh; rw [iniL]; exact hh
  | succ k ih =>
    intro xs h hh
    rw [iniL]
    refine ih _ (by rw [dnL_len]; exact h) (dn_heap k n _ k xs (Nat.le_refl _) h (Nat.le_refl _) (fun q h0 hq hp hne => hh q h0 hq (by omega)) (fun q h0 hq hp hk hp2 => by omega))
theorem up_perm : ∀ (d j : Nat) (xs : List It), j ≤ d → j < xs.length → (upL xs j).Perm xs := by
  intro d
  induction d with
  | zero =>
    intro j xs h hj
    obtain rfl : j = 0 := by omega
    rw [upL_0]
  | succ d ih =>
    intro j xs h hj
    by_cases h0 : 0 < j
    · cases hl : lt3 (ri xs j) (ri xs ((j - 1) / 2)) with
      | true =>
        rw [upL_y h0 hl]
        exact (ih _ _ (by omega) (by rw [swp_len]; omega)).trans (swp_perm (by omega) hj)
      | false => rw [upL_n h0 hl]
    · obtain rfl : j = 0 := by omega
      rw [upL_0]
theorem up_heap (n : Nat) : ∀ (d j : Nat) (xs : List It), j ≤ d → j < n → n ≤ xs.length →
    (∀ k, 0 < k → k < n → k ≠ j → lt3 (ri xs k) (ri xs ((k - 1) / 2)) = false) →
    (∀ k, 0 < k → k < n → (k - 1) / 2 = j → 0 < j → lt3 (ri xs k) (ri xs ((j - 1) / 2)) = false) → HpF 0 n (upL xs j) := by
  intro d
  induction d with
  | zero =>
    intro j xs h hj hn h1 h2
    obtain rfl : j = 0 := by omega
    rw [upL_0]
    intro k h0 hk _
    exact h1 k h0 hk (by omega)
  | succ d ih =>
    intro j xs h hj hn h1 h2
    by_cases hj0 : 0 < j
    · cases hl : lt3 (ri xs j) (ri xs ((j - 1) / 2)) with
      | true =>
        rw [upL_y hj0 hl]
        obtain ⟨p, hp⟩ : ∃ p, (j - 1) / 2 = p := ⟨_, rfl⟩
        rw [hp] at hl h2 ⊢
        have hr := ri_swp (xs := xs) (i := p) (k := j) (by omega) (by omega)
        refine ih p _ (by omega) (by omega) (by rw [swp_len]; exact hn) ?_ ?_
        · intro k h0 hk hne
          rw [hr, hr]
          by_cases e1 : k = j
          · subst e1
            rw [if_pos rfl, hp, if_neg (by omega), if_pos rfl]
            exact lt_asymm hl
          · rw [if_neg e1, if_neg hne]
            by_cases e2 : (k - 1) / 2 = j
            · rw [if_pos e2]
              exact h2 k h0 hk e2 hj0
            · rw [if_neg e2]
              have h3 := h1 k h0 hk e1
              by_cases e3 : (k - 1) / 2 = p
              · rw [if_pos e3]
                rw [e3] at h3
                exact le_trans3 (lt_asymm hl) h3
              · rw [if_neg e3]
                exact h3
        · intro k h0 hk hkp hp0
          rw [hr, hr, if_neg (show ¬ (p - 1) / 2 = j by omega), if_neg (show ¬ (p - 1) / 2 = p by omega)]
          have h4 := h1 p hp0 (by omega) (by omega)
          by_cases e1 : k = j
          · rw [if_pos e1]
            exact h4
          · rw [if_neg e1, if_neg (by omega)]
            have h3 := h1 k h0 hk e1
            rw [hkp] at h3
            exact le_trans3 h4 h3
      | false =>
        rw [upL_n hj0 hl]
        intro k h0 hk _
        by_cases e : k = j
        · rw [e]
          exact hl
        · exact h1 k h0 hk e
    · obtain rfl : j = 0 := by omega
      rw [upL_0]
      intro k h0 hk _
      exact h1 k h0 hk (by omega)
theorem root_least {n : Nat} {xs : List It} (h : HpF 0 n xs) : ∀ d k, k ≤ d → k < n → lt3 (ri xs k) (ri xs 0) = false := by
  intro d
  induction d with
  | zero => intro k h1 h2; obtain rfl : k = 0 := by omega
            exact lt_irr _
  | succ d ih =>
    intro k h1 h2
    by_cases h0 : 0 < k
    · exact le_trans3 (ih ((k - 1) / 2) (by omega) (by omega)) (h k h0 h2 (Nat.zero_le _))
    · obtain rfl : k = 0 := by omega
      exact lt_irr _
/-- A heap xs, and its items in order. -/
structure HS (xs S : List It) : Prop where
  heap : HpF 0 xs.length xs
  sorted : S.Pairwise (fun a b => lt3 b a = false)
  perm : S.Perm xs
theorem HS.len {xs S : List It} (h : HS xs S) : S.length = xs.length := h.perm.length_eq
theorem mem_ri {xs : List It} {x : It} (h : x ∈ xs) : ∃ k, k < xs.length ∧ ri xs k = x := by
  obtain ⟨k, hk, e⟩ := List.getElem_of_mem h
  exact ⟨k, hk, by rw [ri_get hk, e]⟩
theorem ri_mem {xs : List It} {k : Nat} (h : k < xs.length) : ri xs k ∈ xs := by
  rw [ri_get h]
  exact List.getElem_mem h
theorem HS.first {xs t : List It} {s : It} (h : HS xs (s :: t)) : 0 < xs.length ∧ ri xs 0 = s := by
  have hl := h.len
  rw [List.length_cons] at hl
  have h0 : 0 < xs.length := by omega
  refine ⟨h0, ?_⟩
  obtain ⟨k, hk, e⟩ := mem_ri (h.perm.mem_iff.1 List.mem_cons_self)
  have h1 := root_least h.heap k k (Nat.le_refl _) hk
  rw [e] at h1
  have h2 := h.perm.mem_iff.2 (ri_mem h0)
  rcases List.mem_cons.1 h2 with e2 | h2
  · exact e2
  · have h3 := h.sorted
    rw [List.pairwise_cons] at h3
    exact le_antisymm3 h1 (h3.1 _ h2)
theorem take_last {zs : List It} {m : Nat} (h : zs.length = m + 1) : zs = zs.take m ++ [ri zs m] := by
  rw [ri_get (by omega)]
  have h2 := List.take_succ_eq_append_getElem (l := zs) (i := m) (by omega)
  rw [← h2, List.take_of_length_le (by omega)]
theorem ri_take {zs : List It} {m k : Nat} (h : k < m) : ri (zs.take m) k = ri zs k := by
  unfold ri
  simp [h]
theorem HS.pop {xs t : List It} {s : It} (h : HS xs (s :: t)) : HS (popL xs) t := by
  obtain ⟨h0, hs⟩ := h.first
  obtain ⟨m, hm⟩ : ∃ m, xs.length = m + 1 := ⟨xs.length - 1, by omega⟩
  have hz : (swp xs 0 m).length = m + 1 := by rw [swp_len, hm]
  have hr := ri_swp (xs := xs) (i := 0) (k := m) (by omega) (by omega)
  have hd := dn_perm m _ 0 (swp xs 0 m) (Nat.le_refl _) (by omega)
  have hlast : ri (dnL m (swp xs 0 m) 0) m = s := by
    rw [dn_far m _ 0 (swp xs 0 m) (Nat.le_refl _) (by omega) m (Nat.le_refl _) (by omega), hr, if_pos rfl, hs]
  have hh : HpF 0 m (dnL m (swp xs 0 m) 0) := by
    refine dn_heap 0 m _ 0 _ (Nat.le_refl _) (by omega) (Nat.le_refl _) (fun k h0 hk _ hp => ?_) (fun k _ _ _ h0 _ => absurd h0 (Nat.lt_irrefl 0))
    rw [hr, hr, if_neg (by omega), if_neg (by omega), if_neg (by omega), if_neg hp]
    exact h.heap k h0 (by omega) (Nat.zero_le _)
  have hp : popL xs = (dnL m (swp xs 0 m) 0).take m := by
    unfold popL
    rw [show xs.length - 1 = m by omega]
  have hlen : (popL xs).length = m := by rw [popL_len]; omega
  have hcat := take_last (zs := dnL m (swp xs 0 m) 0) (m := m) (by rw [dnL_len, hz])
  rw [hlast, ← hp] at hcat
  refine ⟨?_, (List.pairwise_cons.1 h.sorted).2, ?_⟩
  · rw [hlen, hp]
    intro k h0 hk h1
    rw [ri_take hk, ri_take (by omega)]
    exact hh k h0 hk h1
  · have h1 : (s :: t).Perm (popL xs ++ [s]) := by
      rw [← hcat]
      exact h.perm.trans ((swp_perm (by omega) (by omega)).symm.trans hd.symm)
    exact (h1.trans List.perm_append_comm).cons_inv
/-- A list in order with one more. -/
def ins (x : It) : List It → List It
  | [] => [x]
  | y :: t => if lt3 x y = true then x :: y :: t else y :: ins x t
theorem ins_perm (x : It) : ∀ l : List It, (ins x l).Perm (x :: l) := by
  intro l
  induction l with
  | nil => exact List.Perm.refl _
  | cons y t ih =>
    rw [ins]
    split
    · exact List.Perm.refl _
    · exact (ih.cons y).trans (List.Perm.swap x y t)
theorem ins_sorted {x : It} : ∀ {l : List It}, l.Pairwise (fun a b => lt3 b a = false) → (ins x l).Pairwise (fun a b => lt3 b a = false) := by
  intro l
  induction l with
  | nil => intro _; simp [ins]
  | cons y t ih =>
    intro h
    rw [List.pairwise_cons] at h
    rw [ins]
    split
    · rename_i c
      rw [List.pairwise_cons, List.pairwise_cons]
      refine ⟨fun z hz => ?_, h.1, h.2⟩
      rcases List.mem_cons.1 hz with rfl | hz
      · exact lt_asymm c
      · exact le_trans3 (lt_asymm c) (h.1 z hz)
    · rename_i c
      rw [List.pairwise_cons]
      refine ⟨fun z hz => ?_, ih h.2⟩
      rcases List.mem_cons.1 ((ins_perm x t).mem_iff.1 hz) with rfl | hz
      · simpa using c
      · exact h.1 z hz
theorem HS.push {xs S : List It} (h : HS xs S) (p : It) : HS (pushL xs p) (ins p S) := by
  have hl : (xs ++ [p]).length = xs.length + 1 := by simp
  have hri : ∀ k, k < xs.length → ri (xs ++ [p]) k = ri xs k := by
    intro k hk
    unfold ri
    rw [List.getD_eq_getElem?_getD, List.getElem?_append_left hk, ← List.getD_eq_getElem?_getD]
  refine ⟨?_, ins_sorted h.sorted, ?_⟩
  · rw [pushL_len]
    unfold pushL
    refine up_heap _ _ _ _ (Nat.le_refl _) (by omega) (by omega) (fun k h0 hk hne => ?_) (fun k h0 hk hp hj => by omega)
    rw [hri k (by omega), hri _ (by omega)]
    exact h.heap k h0 (by omega) (Nat.zero_le _)
  · refine (ins_perm p S).trans ?_
    unfold pushL
    refine List.Perm.trans ?_ (up_perm _ _ _ (Nat.le_refl _) (by omega)).symm
    exact (h.perm.cons p).trans (List.perm_append_comm (l₁ := [p]) (l₂ := xs))
def isort (l : List It) : List It := l.foldl (fun s x => ins x s) []
theorem fold_sorted (l : List It) : ∀ s, s.Pairwise (fun a b => lt3 b a = false) → (l.foldl (fun s x => ins x s) s).Pairwise (fun a b => lt3 b a = false) := by
  induction l with
  | nil => intro s h; exact h
  | cons x t ih => intro s h; exact ih _ (ins_sorted h)
theorem fold_perm (l : List It) : ∀ s, (l.foldl (fun s x => ins x s) s).Perm (l ++ s) := by
  induction l with
  | nil => intro s; exact List.Perm.refl _
  | cons x t ih =>
    intro s
    refine (ih (ins x s)).trans ?_
    exact ((ins_perm x s).append_left t).trans List.perm_middle
theorem HS.new (l : List It) : HS (iniL l.length (l.length / 2) l) (isort l) := by
  refine ⟨?_, fold_sorted l [] List.Pairwise.nil, ?_⟩
  · rw [iniL_len]
    refine ini_heap _ _ _ (Nat.le_refl _) (fun k h0 hk hp => by omega)
  · have := fold_perm l []
    rw [List.append_nil] at this
    exact this.trans (ini_perm _ _ _ (Nat.le_refl _)).symm
theorem isort_len (l : List It) : (isort l).length = l.length := by
  rw [(HS.new l).len, iniL_len]
/-- The first m items, and what is left. -/
def drainL : Nat → List It → List It × List It
  | 0, xs => ([], xs)
  | m + 1, xs => (ri xs 0 :: (drainL m (popL xs)).1, (drainL m (popL xs)).2)
theorem HS.drain : ∀ {m : Nat} {xs S : List It}, HS xs S → m ≤ S.length → (drainL m xs).1 = S.take m ∧ HS (drainL m xs).2 (S.drop m) := by
  intro m
  induction m with
  | zero => intro xs S h _; exact ⟨by simp [drainL], by simpa [drainL] using h⟩
  | succ m ih =>
    intro xs S h hm
    cases S with
    | nil => simp at hm
    | cons s t =>
      obtain ⟨h0, hs⟩ := h.first
      obtain ⟨h1, h2⟩ := ih h.pop (by simpa using hm)
      refine ⟨?_, ?_⟩
      · rw [drainL, hs]
        simp [h1]
      · rw [drainL]
        simpa using h2
end Go.Proofs.Ytojaflnejkbjnaa.Hp9
