/- The letter of any kind, the kind of any letter, and the spells of any kind in any letters: lemmas on kinds and spells, and the pure statement of ViewLetters. -/
import Derived.Test.YtegmofaiobdilaaMViewLettersx4
set_option linter.unusedVariables false
set_option linter.unusedSimpArgs false
namespace Go.Proofs.Ytegmofaiobdilaa.Pure
open Go.RowKit Go.Proofs.Ytegmofaiobdilaa.MViewLetters Go.Proofs.YtegmofaiobdilaaW.PrintWords Go.Proofs.YtegmofaiobdilaaW.PrintLast

theorem w64 {x : Int} (h0 : -9223372036854775808 ≤ x) (h1 : x ≤ 9223372036854775807) : wrap64 x = x := by
  unfold wrap64
  omega
theorem tmod_nn {a : Int} (h : 0 ≤ a) (b : Int) : Int.tmod a b = a % b := by
  rw [Int.tmod_eq_emod_of_nonneg h]
theorem tdiv_nn {a : Int} (h : 0 ≤ a) (b : Int) : Int.tdiv a b = a / b := by
  rw [Int.tdiv_eq_ediv_of_nonneg h]
theorem ev_succ {α : Type} {g : Nat → Option α} {r : α} (h : Ev (fun k => g (k + 1)) r) : Ev g r := by
  obtain ⟨K, h⟩ := h
  refine ⟨K + 1, fun n hn => ?_⟩
  obtain ⟨m, rfl⟩ : ∃ m, n = m + 1 := ⟨n - 1, by omega⟩
  exact h m (by omega)

def bl (s : ByteArray) : List Int := s.data.toList.map fun c => (c.toNat : Int)
theorem bl_length (s : ByteArray) : (bl s).length = s.size := by simp [bl]
theorem bl_range (s : ByteArray) : ∀ x ∈ bl s, 0 ≤ x ∧ x ≤ 255 := by
  intro x hx
  simp only [bl, List.mem_map] at hx
  obtain ⟨c, _, rfl⟩ := hx
  have := c.toNat_lt
  omega
theorem bt_bl (s : ByteArray) (i : Nat) (h : i < s.size) : (bl s)[i]? = some (bt s (i : Int)) := by
  unfold bt
  rw [dif_pos (by simpa using h)]
  simp only [bl, List.getElem?_map, Int.toNat_natCast]
  rw [List.getElem?_eq_getElem (by simpa using h)]
  rfl
theorem bl_drop (s : ByteArray) (i : Nat) (h : i < s.size) : (bl s).drop i = bt s (i : Int) :: (bl s).drop (i + 1) := by
  have h1 := bt_bl s i h
  obtain ⟨h2, h3⟩ := List.getElem?_eq_some_iff.1 h1
  rw [List.drop_eq_getElem_cons h2, h3]
theorem bl_append (s t : ByteArray) : bl (s ++ t) = bl s ++ bl t := by simp [bl, ByteArray.data_append]
theorem toList_inj {s t : ByteArray} (h : s.toList = t.toList) : s = t := by
  rw [ByteArray.toList_eq, ByteArray.toList_eq] at h
  cases s; cases t
  simp at h
  rw [h]
theorem bl_inj {s t : ByteArray} (h : bl s = bl t) : s = t := by
  apply toList_inj
  rw [ByteArray.toList_eq, ByteArray.toList_eq]
  unfold bl at h
  refine List.map_inj_right ?_ |>.1 h
  intro x y hxy
  exact UInt8.toNat_inj.1 (by omega)
theorem toList_bl {s t : ByteArray} : s.toList = t.toList ↔ bl s = bl t := by
  constructor
  · intro h; rw [toList_inj h]
  · intro h; rw [bl_inj h]
theorem bl_nums (xs : List Int) (h : ∀ x ∈ xs, 0 ≤ x ∧ x ≤ 255) : bl (strOfNums xs) = xs := by
  unfold bl strOfNums
  simp only [List.map_map]
  conv => rhs; rw [← List.map_id xs]
  apply List.map_congr_left
  intro x hx
  have := h x hx
  simp only [Function.comp]
  rw [UInt8.toNat_ofNat']
  simp
  omega
theorem bl_extract (s : ByteArray) (i j : Nat) : bl (s.extract i j) = ((bl s).take j).drop i := by
  simp [bl, ByteArray.data_extract, List.map_drop, List.map_take, List.drop_take]
theorem size_bl (s : ByteArray) : s.size = (bl s).length := (bl_length s).symm

/-! kinds and letters; alive -/
open Go.Proofs.Ytegmofaiobdilaa.Vw1 (mins minsR lenR Rec) 
open Go.Proofs.Ytegmofaiobdilaa.Vw3 (letter txt)
open Go.Proofs.Ytegmofaiobdilaa.Vw4 (kindJ kindS)
def kd (c : Int) : Int × Bool := if c = 82 then (0, true) else if c = 65 then (1, true) else if c = 87 then (2, true) else if c = 68 then (3, true) else (0, false)
theorem kindS_nat : ∀ n, n < 256 → kindS ((n : Nat) : Int) = kd ((n : Nat) : Int) := by
  set_option maxRecDepth 100000 in
  decide
theorem kindS_kd (c : Int) (h0 : 0 ≤ c) (h1 : c ≤ 255) : kindS c = kd c := by
  obtain ⟨n, rfl⟩ := Int.eq_ofNat_of_zero_le h0
  exact kindS_nat n (by omega)
theorem kind_f (c : Int) (h0 : 0 ≤ c) (h1 : c ≤ 255) : view_Kind.f c = some (kd c) := by
  unfold view_Kind.f
  rw [kindS_kd c h0 h1]
theorem kd_cases (c : Int) : (c = 82 ∧ kd c = (0, true)) ∨ (c = 65 ∧ kd c = (1, true)) ∨ (c = 87 ∧ kd c = (2, true)) ∨ (c = 68 ∧ kd c = (3, true)) ∨ (c ≠ 82 ∧ c ≠ 65 ∧ c ≠ 87 ∧ c ≠ 68 ∧ kd c = (0, false)) := by
  unfold kd
  by_cases h1 : c = 82
  · simp [h1]
  by_cases h2 : c = 65
  · simp [h2]
  by_cases h3 : c = 87
  · simp [h3]
  by_cases h4 : c = 68
  · simp [h4]
  · simp [h1, h2, h3, h4]
theorem alive_f : Ev (fun k => haulierlaw09_alive.f k) true := Ev.of (fun k => haulierlaw09_alive.mono k) (k := 10) (by kernel_rfl)

theorem b0 : bt (⟨#[82, 65, 87, 68]⟩ : ByteArray) 0 = 82 ∧ bt (⟨#[82, 65, 87, 68]⟩ : ByteArray) 1 = 65 ∧ bt (⟨#[82, 65, 87, 68]⟩ : ByteArray) 2 = 87 ∧ bt (⟨#[82, 65, 87, 68]⟩ : ByteArray) 3 = 68 := ⟨rfl, rfl, rfl, rfl⟩
theorem refkind_f (c : Int) : Ev (fun k => haulierref09_Kind.f k c) (kd c) := by
  refine ⟨10, fun k hk => ?_⟩
  obtain ⟨m, rfl⟩ : ∃ m, k = m + 5 := ⟨k - 5, by omega⟩
  obtain ⟨h0, h1, h2, h3⟩ := b0
  have w0 : wrap64 (0 + 1) = 1 := w64 (x := 0 + 1) (by omega) (by omega)
  have w1 : wrap64 (1 + 1) = 2 := w64 (x := 1 + 1) (by omega) (by omega)
  have w2 : wrap64 (2 + 1) = 3 := w64 (x := 2 + 1) (by omega) (by omega)
  have w3 : wrap64 (3 + 1) = 4 := w64 (x := 3 + 1) (by omega) (by omega)
  unfold kd haulierref09_Kind.f
  simp only [haulierref09_Kind.l0, h0, h1, h2, h3, w0, w1, w2, w3]
  by_cases e1 : c = 82
  · subst e1; rfl
  by_cases e2 : c = 65
  · subst e2; rfl
  by_cases e3 : c = 87
  · subst e3; rfl
  by_cases e4 : c = 68
  · subst e4; rfl
  · simp [e1, e2, e3, e4, Ne.symm e1, Ne.symm e2, Ne.symm e3, Ne.symm e4]

/-! the spells of a letter, as view makes them -/
def lt (a : Int) : Int := if a = 0 then 82 else if a = 1 then 65 else if a = 2 then 87 else 68
theorem letter_f (a : Int) : view_Letter.f a = if 0 ≤ a ∧ a < 4 then some (lt a, true) else some (0, false) := by
  unfold view_Letter.f
  by_cases h0 : a < 0
  · rw [if_pos h0, if_neg (by omega)]
  rw [if_neg h0]
  by_cases h1 : a ≥ 4
  · rw [if_pos h1, if_neg (by omega)]
  rw [if_neg h1, if_pos (by omega), if_pos (by omega), if_pos (by omega)]
  have : a = 0 ∨ a = 1 ∨ a = 2 ∨ a = 3 := by omega
  rcases this with rfl | rfl | rfl | rfl <;> rfl
theorem kd_lt (c a : Int) (h : 0 ≤ a ∧ a < 4) : kd c = (a, true) ↔ c = lt a := by
  have : a = 0 ∨ a = 1 ∨ a = 2 ∨ a = 3 := by omega
  rcases kd_cases c with ⟨rfl, e⟩ | ⟨rfl, e⟩ | ⟨rfl, e⟩ | ⟨rfl, e⟩ | ⟨h1, h2, h3, h4, e⟩ <;> rw [e] <;> rcases this with rfl | rfl | rfl | rfl <;> simp [lt] <;> omega
/-- spells of c: what came so far, the place, whether the byte ahead is c. -/
def refF (c : Int) : List S66 → Nat → Bool → List Int → List S66
  | acc, _, _, [] => acc
  | acc, p, pv, x :: t => if x = c then (if pv = true then refF c (acc.set (acc.length - 1) ⟨(rd_T66 acc ((acc.length : Int) - 1)).f0, (p : Int) + 1⟩) (p + 1) true t else refF c (acc ++ [⟨(p : Int), (p : Int) + 1⟩]) (p + 1) true t) else refF c acc (p + 1) false t
theorem refF_len (c : Int) (xs : List Int) : ∀ acc p pv, (refF c acc p pv xs).length ≤ acc.length + xs.length := by
  induction xs with
  | nil => intro acc p pv; simp [refF]
  | cons x t ih =>
    intro acc p pv
    rw [refF]
    split
    · split
      · have := ih (acc.set (acc.length - 1) ⟨(rd_T66 acc ((acc.length : Int) - 1)).f0, (p : Int) + 1⟩) (p + 1) true
        rw [List.length_set] at this
        simp only [List.length_cons]
        omega
      · have := ih (acc ++ [⟨(p : Int), (p : Int) + 1⟩]) (p + 1) true
        simp only [List.length_append, List.length_cons, List.length_nil] at this ⊢
        omega
    · have := ih acc (p + 1) false
      simp only [List.length_cons]
      omega
theorem set_last (acc : List S66) (a b : S66) : (acc ++ [a]).set ((acc ++ [a]).length - 1) b = acc ++ [b] ∧ rd_T66 (acc ++ [a]) (((acc ++ [a]).length : Int) - 1) = a := by
  constructor
  · rw [List.length_append, List.length_singleton, Nat.add_sub_cancel, List.set_append_right _ _ (Nat.le_refl _)]
    simp
  · unfold rd_T66
    rw [show (((acc ++ [a]).length : Int) - 1).toNat = acc.length by rw [List.length_append, List.length_singleton]; omega]
    simp
theorem spells_l (s : ByteArray) (hs : s.size ≤ 1000000) (c : Int) (d : Nat) :
    (∀ (p : Nat) (acc : List S66), p + d = s.size → acc.length ≤ p → Ev (fun k => view_Spells.l0 k s c acc (p : Int)) (refF c acc p false ((bl s).drop p))) ∧
    (∀ (p q : Nat) (acc : List S66), p + d = s.size → acc.length ≤ p → Ev (fun k => view_Spells.l1 k s c acc (p : Int) (q : Int)) (refF c (acc ++ [⟨(q : Int), (p : Int)⟩]) p true ((bl s).drop p))) := by
  induction d using Nat.strongRecOn with
  | _ d ih =>
    have L1 : ∀ (p q : Nat) (acc : List S66), p + d = s.size → acc.length ≤ p → Ev (fun k => view_Spells.l1 k s c acc (p : Int) (q : Int)) (refF c (acc ++ [⟨(q : Int), (p : Int)⟩]) p true ((bl s).drop p)) := by
      intro p q acc hp ha
      refine ev_succ ?_
      cases d with
      | zero =>
        simp only [view_Spells.l1, if_neg (show ¬ (p : Int) < (s.size : Int) by omega), if_pos (show acc.length < 8796093022208 by omega)]
        rw [List.drop_of_length_le (by rw [bl_length]; omega), refF]
        refine ev_succ ?_
        simp only [view_Spells.l0, w64 (x := (p : Int) + 1) (by omega) (by omega), if_neg (show ¬ (p : Int) + 1 < (s.size : Int) by omega)]
        exact Ev.now _
      | succ d =>
        rw [bl_drop s p (by omega), refF]
        simp only [view_Spells.l1, if_pos (show (p : Int) < (s.size : Int) by omega), if_pos (show (0 : Int) ≤ (p : Int) by omega), w64 (x := (p : Int) + 1) (by omega) (by omega), if_pos (show acc.length < 8796093022208 by omega)]
        by_cases e : bt s (p : Int) = c
        · simp only [if_pos e, if_true]
          have h := (ih d (by omega)).2 (p + 1) q acc (by omega) (by omega)
          obtain ⟨g1, g2⟩ := set_last acc ⟨(q : Int), (p : Int)⟩ ⟨(q : Int), (p : Int) + 1⟩
          rw [g2]
          simp only []
          rw [g1]
          rw [show (((p + 1 : Nat) : Int)) = (p : Int) + 1 by omega] at h
          exact h
        · simp only [if_neg e]
          have h := (ih d (by omega)).1 (p + 1) (acc ++ [⟨(q : Int), (p : Int)⟩]) (by omega) (by simp; omega)
          rw [show (((p + 1 : Nat) : Int)) = (p : Int) + 1 by omega] at h
          exact h
    refine ⟨?_, L1⟩
    intro p acc hp ha
    refine ev_succ ?_
    cases d with
    | zero =>
      simp only [view_Spells.l0, if_neg (show ¬ (p : Int) < (s.size : Int) by omega)]
      rw [List.drop_of_length_le (by rw [bl_length]; omega), refF]
      exact Ev.now _
    | succ d =>
      rw [bl_drop s p (by omega), refF]
      simp only [view_Spells.l0, if_pos (show (p : Int) < (s.size : Int) by omega), if_pos (show (0 : Int) ≤ (p : Int) by omega), w64 (x := (p : Int) + 1) (by omega) (by omega)]
      by_cases e : bt s (p : Int) = c
      · simp only [if_pos e, Bool.false_eq_true, if_false]
        refine ev_succ ?_
        simp only [view_Spells.l1, if_pos (show (p : Int) < (s.size : Int) by omega), if_pos (show (0 : Int) ≤ (p : Int) by omega), w64 (x := (p : Int) + 1) (by omega) (by omega), if_pos e]
        have h := (ih d (by omega)).2 (p + 1) p acc (by omega) (by omega)
        rw [show (((p + 1 : Nat) : Int)) = (p : Int) + 1 by omega] at h
        exact h
      · simp only [if_neg e]
        have h := (ih d (by omega)).1 (p + 1) acc (by omega) (by omega)
        rw [show (((p + 1 : Nat) : Int)) = (p : Int) + 1 by omega] at h
        exact h
def spellsS (a : Int) (l : List Int) : List S66 := if 0 ≤ a ∧ a < 4 then refF (lt a) [] 0 false l else []
theorem spells_f (s : ByteArray) (hs : s.size ≤ 1000000) (a : Int) : Ev (fun k => view_Spells.f k s a) (spellsS a (bl s)) := by
  unfold view_Spells.f spellsS
  rw [letter_f]
  by_cases h : 0 ≤ a ∧ a < 4
  · simp only [if_pos h, Option.bind_some, if_true]
    exact (spells_l s hs (lt a) s.size).1 0 [] (by omega) (Nat.le_refl _)
  · simp only [if_neg h, Option.bind_some, Bool.false_eq_true, if_false]
    exact Ev.now _

/-! the spells of a letter, as the document makes them -/
theorem refspells_yes (s : ByteArray) (hs : s.size ≤ 1000000) (a : Int) (ha : 0 ≤ a ∧ a < 4) (d : Nat) : ∀ (p : Nat) (acc : List S66) (pv : Bool), p + d = s.size → acc.length ≤ p → (pv = true ↔ 0 < p ∧ bt s ((p : Int) - 1) = lt a) → (pv = true → 0 < acc.length) →
    Ev (fun k => haulierref09_Spells.l0 k s a acc (p : Int)) (refF (lt a) acc p pv ((bl s).drop p)) := by
  induction d with
  | zero =>
    intro p acc pv hp hl h1 h2
    refine ev_succ ?_
    simp only [haulierref09_Spells.l0, if_neg (show ¬ (p : Int) < (s.size : Int) by omega)]
    rw [List.drop_of_length_le (by rw [bl_length]; omega), refF]
    exact Ev.now _
  | succ d ih =>
    intro p acc pv hp hl h1 h2
    rw [bl_drop s p (by omega), refF]
    refine ev_succ ?_
    simp only [haulierref09_Spells.l0, if_pos (show (p : Int) < (s.size : Int) by omega), if_pos (show (0 : Int) ≤ (p : Int) by omega)]
    refine Ev.bind (refkind_f _) ?_
    have hk := kd_lt (bt s (p : Int)) a ha
    by_cases e : bt s (p : Int) = lt a
    · rw [hk.2 e]
      simp only [if_true, bne_self_eq_false, if_pos e]
      refine ev_succ ?_
      simp only [haulierref09_Spells.j1, Bool.false_eq_true, if_false]
      have hnx : ∀ acc' : List S66, acc'.length ≤ p + 1 → 0 < acc'.length → Ev (fun k => haulierref09_Spells.l0 k s a acc' ((p : Int) + 1)) (refF (lt a) acc' (p + 1) true ((bl s).drop (p + 1))) := by
        intro acc' g1 g2
        have h := ih (p + 1) acc' true (by omega) g1 (by
          rw [show (((p + 1 : Nat) : Int)) - 1 = (p : Int) by omega]
          simp [e]) (fun _ => g2)
        rw [show (((p + 1 : Nat) : Int)) = (p : Int) + 1 by omega] at h
        exact h
      have hw : wrap64 ((p : Int) + 1) = (p : Int) + 1 := w64 (by omega) (by omega)
      by_cases p0 : 0 < p
      · simp only [if_pos (show (p : Int) > 0 by omega), w64 (x := (p : Int) - 1) (by omega) (by omega), if_pos (show (0 : Int) ≤ (p : Int) - 1 by omega), if_pos (show (p : Int) - 1 < (s.size : Int) by omega), if_pos (show (0 : Int) ≤ (p : Int) by omega), if_pos (show (p : Int) < (s.size : Int) by omega), hw]
        by_cases c : bt s ((p : Int) - 1) = bt s (p : Int)
        · have hpv : pv = true := h1.2 ⟨p0, by rw [c, e]⟩
          have hl0 := h2 hpv
          simp only [if_pos c, if_pos hpv, w64 (x := (acc.length : Int) - 1) (by omega) (by omega), if_pos (show (0 : Int) ≤ (acc.length : Int) - 1 by omega), if_pos (show (acc.length : Int) - 1 < (acc.length : Int) by omega)]
          rw [show ((acc.length : Int) - 1).toNat = acc.length - 1 by omega]
          exact hnx _ (by rw [List.length_set]; omega) (by rw [List.length_set]; exact hl0)
        · have hpv : ¬ pv = true := fun q => c (by rw [(h1.1 q).2, e])
          simp only [if_neg c, if_neg hpv, if_pos (show acc.length < 8796093022208 by omega)]
          exact hnx _ (by simp; omega) (by simp)
      · have hpv : ¬ pv = true := fun q => p0 (h1.1 q).1
        simp only [if_neg (show ¬ (p : Int) > 0 by omega), if_neg hpv, hw, if_pos (show acc.length < 8796093022208 by omega)]
        exact hnx _ (by simp; omega) (by simp)
    · simp only [if_neg e]
      have hnx : Ev (fun k => haulierref09_Spells.j1 k s a acc (p : Int) true) (refF (lt a) acc (p + 1) false ((bl s).drop (p + 1))) := by
        refine ev_succ ?_
        simp only [haulierref09_Spells.j1, if_true, w64 (x := (p : Int) + 1) (by omega) (by omega)]
        have h := ih (p + 1) acc false (by omega) (by omega) (by
          rw [show (((p + 1 : Nat) : Int)) - 1 = (p : Int) by omega]
          simp [e]) (by simp)
        rw [show (((p + 1 : Nat) : Int)) = (p : Int) + 1 by omega] at h
        exact h
      cases hb : (kd (bt s (p : Int))).2
      · simp only [Bool.false_eq_true, if_false]
        exact hnx
      · simp only [if_true]
        have : ((kd (bt s (p : Int))).1 != a) = true := by
          rw [bne_iff_ne]
          intro q
          exact e (hk.1 (Prod.ext q hb))
        rw [this]
        exact hnx
theorem refspells_no (s : ByteArray) (hs : s.size ≤ 1000000) (a : Int) (ha : ¬ (0 ≤ a ∧ a < 4)) (d : Nat) : ∀ (p : Nat), p + d = s.size → Ev (fun k => haulierref09_Spells.l0 k s a [] (p : Int)) [] := by
  induction d with
  | zero =>
    intro p hp
    refine ev_succ ?_
    simp only [haulierref09_Spells.l0, if_neg (show ¬ (p : Int) < (s.size : Int) by omega)]
    exact Ev.now _
  | succ d ih =>
    intro p hp
    refine ev_succ ?_
    simp only [haulierref09_Spells.l0, if_pos (show (p : Int) < (s.size : Int) by omega), if_pos (show (0 : Int) ≤ (p : Int) by omega)]
    refine Ev.bind (refkind_f _) ?_
    have hnx : Ev (fun k => haulierref09_Spells.j1 k s a [] (p : Int) true) [] := by
      refine ev_succ ?_
      simp only [haulierref09_Spells.j1, if_true, w64 (x := (p : Int) + 1) (by omega) (by omega)]
      have h := ih (p + 1) (by omega)
      rw [show (((p + 1 : Nat) : Int)) = (p : Int) + 1 by omega] at h
      exact h
    have : (kd (bt s (p : Int))).2 = true → ((kd (bt s (p : Int))).1 != a) = true := by
      intro _
      rw [bne_iff_ne]
      intro q
      apply ha
      rcases kd_cases (bt s (p : Int)) with ⟨_, e⟩ | ⟨_, e⟩ | ⟨_, e⟩ | ⟨_, e⟩ | ⟨_, _, _, _, e⟩ <;> rw [e] at q <;> simp only [] at q <;> omega
    cases hb : (kd (bt s (p : Int))).2
    · simp only [Bool.false_eq_true, if_false]
      exact hnx
    · simp only [if_true]
      rw [this hb]
      exact hnx
theorem refspells_f (s : ByteArray) (hs : s.size ≤ 1000000) (a : Int) : Ev (fun k => haulierref09_Spells.f k s a) (spellsS a (bl s)) := by
  unfold haulierref09_Spells.f spellsS
  by_cases h : 0 ≤ a ∧ a < 4
  · rw [if_pos h]
    exact refspells_yes s hs a h s.size 0 [] false (by omega) (Nat.le_refl _) (by simp) (by simp)
  · rw [if_neg h]
    exact refspells_no s hs a h s.size 0 (by omega)
theorem same03_f (l : List S66) (hl : l.length ≤ 1000000000) : Ev (fun k => haulierref03_Same.f k l l) true := by
  unfold haulierref03_Same.f
  simp only [if_true]
  have : ∀ d (i : Nat), i + d = l.length → Ev (fun k => haulierref03_Same.l0 k l l (i : Int)) true := by
    intro d
    induction d with
    | zero =>
      intro i hi
      refine ev_succ ?_
      simp only [haulierref03_Same.l0, if_neg (show ¬ (i : Int) < (l.length : Int) by omega)]
      exact Ev.now _
    | succ d ih =>
      intro i hi
      have h := ih (i + 1) (by omega)
      rw [show (((i + 1 : Nat) : Int)) = (i : Int) + 1 by omega] at h
      refine ev_succ ?_
      simp only [haulierref03_Same.l0, if_pos (show (i : Int) < (l.length : Int) by omega), if_pos (show (0 : Int) ≤ (i : Int) by omega), w64 (x := (i : Int) + 1) (by omega) (by omega), beq_self_eq_true, Bool.not_true, Bool.or_self, Bool.false_eq_true, if_false]
      exact h
  exact this l.length 0 (by omega)

theorem u8_range {x : Int} (h : (Lit.int .u8 x).wf = true) : 0 ≤ x ∧ x ≤ 255 := by simpa [Lit.wf, IntKind.min, IntKind.max, IntKind.signed, IntKind.bits] using h
theorem letters_j0 (s : ByteArray) (hs : s.size ≤ 3000) (a : Int) : Ev (fun k => haulierlaw09_ViewLetters.j0 k s a false) true := by
  refine ev_succ ?_
  simp only [haulierlaw09_ViewLetters.j0, Bool.false_eq_true, if_false]
  refine Ev.bind (spells_f s (by omega) a) ?_
  refine Ev.bind (refspells_f s (by omega) a) ?_
  have hl : (spellsS a (bl s)).length ≤ 1000000000 := by
    unfold spellsS
    split
    · have := refF_len (lt a) (bl s) [] 0 false
      rw [bl_length] at this
      simp only [List.length_nil] at this
      omega
    · simp
  refine Ev.bind (same03_f _ hl) ?_
  simp only [if_true]
  exact Ev.bind alive_f (Ev.now _)
theorem ViewLetters : haulierlaw09_ViewLetters.Pure := by
  intro s a c hs ha hc
  obtain ⟨c0, c1⟩ := u8_range hc
  refine Ev.rounds ?_
  unfold haulierlaw09_ViewLetters.f
  by_cases h : (s.size : Int) > 3000
  · simp only [if_pos h]
    exact Ev.bind alive_f (Ev.now _)
  · simp only [if_neg h]
    have hj := letters_j0 s (by omega) a
    rw [kind_f c c0 c1]
    simp only [Option.bind_some]
    refine Ev.bind (refkind_f c) ?_
    rw [letter_f]
    simp only [if_true, bne_self_eq_false, Bool.false_eq_true, if_false]
    by_cases r : 0 ≤ a ∧ a < 4
    · simp only [if_pos r, Option.bind_some, if_pos (show a ≥ 0 from r.1), if_pos r.1, if_pos r.2, decide_eq_true r.2, bne_self_eq_false, Bool.false_eq_true, if_false, if_true]
      have e : lt a = bt (⟨#[82, 65, 87, 68]⟩ : ByteArray) a := by
        have : a = 0 ∨ a = 1 ∨ a = 2 ∨ a = 3 := by omega
        rcases this with rfl | rfl | rfl | rfl <;> rfl
      simp only [if_pos e]
      exact hj
    · simp only [if_neg r, Option.bind_some]
      by_cases q : a ≥ 0
      · simp only [if_pos q, decide_eq_false (show ¬ a < 4 by omega), bne_self_eq_false, Bool.false_eq_true, if_false]
        exact hj
      · simp only [if_neg q, bne_self_eq_false, Bool.false_eq_true, if_false]
        exact hj


end Go.Proofs.Ytegmofaiobdilaa.Pure
