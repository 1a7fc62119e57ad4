/- The view of any timeline, and the timeline of any view: lemmas on records, kinds and views, and the pure statement of ViewOf. -/
import Derived.Test.YtegmofaiobdilaaMViewOfx6
set_option linter.unusedVariables false
set_option linter.unusedSimpArgs false
namespace Go.Proofs.Ytegmofaiobdilaa.Pure
open Go.RowKit Go.Proofs.Ytegmofaiobdilaa.MViewOf Go.Proofs.YtegmofaiobdilaaW.PrintWords Go.Proofs.YtegmofaiobdilaaW.PrintLast

theorem w64 {x : Int} (h0 : -9223372036854775808 ≤ x) (h1 : x ≤ 9223372036854775807) : wrap64 x = x := by
  unfold wrap64
  omega
theorem tmod_nn {a : Int} (h : 0 ≤ a) (b : Int) : Int.tmod a b = a % b := by
  rw [Int.tmod_eq_emod_of_nonneg h]
theorem tdiv_nn {a : Int} (h : 0 ≤ a) (b : Int) : Int.tdiv a b = a / b := by
  rw [Int.tdiv_eq_ediv_of_nonneg h]
theorem ev_succ {α : Type} {g : Nat → Option α} {r : α} (h : Ev (fun k => g (k + 1)) r) : Ev g r := by
  obtain ⟨K, h⟩ := h
  refine ⟨K + 1, fun n hn => ?_⟩
  obtain ⟨m, rfl⟩ : ∃ m, n = m + 1 := ⟨n - 1, by omega⟩
  exact h m (by omega)

def IR (x : Int) : Prop := -9223372036854775808 ≤ x ∧ x ≤ 9223372036854775807
theorem ir_of {x : Int} (h : (Lit.int .i64 x).wf = true) : IR x := by simpa [IR, Lit.wf, IntKind.min, IntKind.max, IntKind.signed, IntKind.bits] using h
theorem rd_drop (xs : List Int) (i : Nat) (h : i < xs.length) : xs.drop i = rd xs (i : Int) :: xs.drop (i + 1) := by
  rw [List.drop_eq_getElem_cons h]
  simp [rd, h]
theorem rd_mem (xs : List Int) (i : Nat) (h : i < xs.length) : rd xs (i : Int) ∈ xs := by
  simp [rd, h]

def bl (s : ByteArray) : List Int := s.data.toList.map fun c => (c.toNat : Int)
theorem bl_length (s : ByteArray) : (bl s).length = s.size := by simp [bl]
theorem bl_range (s : ByteArray) : ∀ x ∈ bl s, 0 ≤ x ∧ x ≤ 255 := by
  intro x hx
  simp only [bl, List.mem_map] at hx
  obtain ⟨c, _, rfl⟩ := hx
  have := c.toNat_lt
  omega
theorem bt_bl (s : ByteArray) (i : Nat) (h : i < s.size) : (bl s)[i]? = some (bt s (i : Int)) := by
  unfold bt
  rw [dif_pos (by simpa using h)]
  simp only [bl, List.getElem?_map, Int.toNat_natCast]
  rw [List.getElem?_eq_getElem (by simpa using h)]
  rfl
theorem bl_drop (s : ByteArray) (i : Nat) (h : i < s.size) : (bl s).drop i = bt s (i : Int) :: (bl s).drop (i + 1) := by
  have h1 := bt_bl s i h
  obtain ⟨h2, h3⟩ := List.getElem?_eq_some_iff.1 h1
  rw [List.drop_eq_getElem_cons h2, h3]
theorem bl_append (s t : ByteArray) : bl (s ++ t) = bl s ++ bl t := by simp [bl, ByteArray.data_append]
theorem toList_inj {s t : ByteArray} (h : s.toList = t.toList) : s = t := by
  rw [ByteArray.toList_eq, ByteArray.toList_eq] at h
  cases s; cases t
  simp at h
  rw [h]
theorem bl_inj {s t : ByteArray} (h : bl s = bl t) : s = t := by
  apply toList_inj
  rw [ByteArray.toList_eq, ByteArray.toList_eq]
  unfold bl at h
  refine List.map_inj_right ?_ |>.1 h
  intro x y hxy
  exact UInt8.toNat_inj.1 (by omega)
theorem toList_bl {s t : ByteArray} : s.toList = t.toList ↔ bl s = bl t := by
  constructor
  · intro h; rw [toList_inj h]
  · intro h; rw [bl_inj h]
theorem bl_nums (xs : List Int) (h : ∀ x ∈ xs, 0 ≤ x ∧ x ≤ 255) : bl (strOfNums xs) = xs := by
  unfold bl strOfNums
  simp only [List.map_map]
  conv => rhs; rw [← List.map_id xs]
  apply List.map_congr_left
  intro x hx
  have := h x hx
  simp only [Function.comp]
  rw [UInt8.toNat_ofNat']
  simp
  omega
theorem bl_extract (s : ByteArray) (i j : Nat) : bl (s.extract i j) = ((bl s).take j).drop i := by
  simp [bl, ByteArray.data_extract, List.map_drop, List.map_take, List.drop_take]
theorem size_bl (s : ByteArray) : s.size = (bl s).length := (bl_length s).symm

theorem rdT_drop (xs : List S50) (i : Nat) (h : i < xs.length) : xs.drop i = rd_T50 xs (i : Int) :: xs.drop (i + 1) := by
  rw [List.drop_eq_getElem_cons h]
  simp [rd_T50, h]
theorem rdT_mem (xs : List S50) (i : Nat) (h : i < xs.length) : rd_T50 xs (i : Int) ∈ xs := by simp [rd_T50, h]
theorem rdT_get (xs : List S50) (i : Nat) (h : i < xs.length) : xs[i]? = some (rd_T50 xs (i : Int)) := by simp [rd_T50, h]
def fltS (a b c : Int) : Int := if a < 0 ∨ a > 3 then 2 else if b < 0 ∨ b > 40320 ∨ c < 0 ∨ c > 40320 then 4 else if c ≤ b then 3 else 0
def chkS : List S50 → Nat → Option Int → Int × Int
  | [], _, _ => (0, 0)
  | r :: l, i, p => if fltS r.f0 r.f1 r.f2 ≠ 0 then ((i : Int), fltS r.f0 r.f1 r.f2) else
    if (∃ e, p = some e ∧ r.f1 > e) then ((i : Int), 5) else if (∃ e, p = some e ∧ r.f1 < e) then ((i : Int), 6) else chkS l (i + 1) (some r.f2)
def prevS (l : List S50) (i : Nat) : Option Int := if i = 0 then none else some (rd_T50 l ((i - 1 : Nat) : Int)).f2

theorem kind_f (a : Int) : record_kind.f a = some (!decide (a < 0 ∨ a > 3)) := by
  unfold record_kind.f
  by_cases h : a ≥ 0
  · rw [if_pos h]; congr 1; by_cases h2 : a < 4 <;> simp [h2] <;> omega
  · rw [if_neg h]; congr 1; simp; omega
theorem in_f (a : Int) : record_in.f a = some (!decide (a < 0 ∨ a > 40320)) := by
  unfold record_in.f
  by_cases h : a ≥ 0
  · rw [if_pos h]; congr 1; by_cases h2 : a ≤ 40320 <;> simp [h2] <;> omega
  · rw [if_neg h]; congr 1; simp; omega
theorem fault_f (a b c : Int) : Ev (fun k => record_fault.f k a b c) (fltS a b c) := by
  unfold record_fault.f fltS
  simp only [kind_f, in_f, Option.bind_some, Bool.not_eq_true', decide_eq_false_iff_not]
  by_cases h1 : a < 0 ∨ a > 3
  · simp only [h1, not_true, if_false, if_true]
    exact Ev.now _
  · simp only [h1, not_false_eq_true, if_true, if_false]
    have hj : ∀ z : Bool, Ev (fun k => record_fault.j0 k z a b c) (if z = true then 4 else if c ≤ b then 3 else 0) := by
      intro z
      refine ev_succ ?_
      simp only [record_fault.j0]
      by_cases hz : z = true
      · simp only [if_pos hz]; exact Ev.now _
      · by_cases hc : c ≤ b
        · simp only [if_neg hz, if_pos hc]; exact Ev.now _
        · simp only [if_neg hz, if_neg hc]; exact Ev.now _
    by_cases h2 : b < 0 ∨ b > 40320
    · have := hj true
      simp only [h2, not_true, if_false]
      rw [if_pos (by omega)]
      simpa using this
    · simp only [h2, not_false_eq_true, if_true]
      have := hj (!!decide (c < 0 ∨ c > 40320))
      by_cases h3 : c < 0 ∨ c > 40320
      · rw [if_pos (by omega)]
        simpa [h3] using this
      · rw [if_neg (by omega)]
        simpa [h3] using this
theorem prevS_pos (l : List S50) (i : Nat) (h : 0 < i) (hi : i ≤ l.length) : prevS l i = some (rd_T50 l ((i : Int) - 1)).f2 := by
  unfold prevS
  rw [if_neg (by omega), show ((i - 1 : Nat) : Int) = (i : Int) - 1 by omega]
theorem prevS_succ (l : List S50) (i : Nat) : prevS l (i + 1) = some (rd_T50 l (i : Int)).f2 := by
  unfold prevS
  rw [if_neg (by omega)]
  rfl
theorem check_l0 (l : List S50) (hl : l.length ≤ maxLen) (d : Nat) : ∀ i : Nat, i + d = l.length → Ev (fun k => record_Check.l0 k l l (l.length : Int) (i : Int)) (chkS (l.drop i) i (prevS l i)) := by
  unfold maxLen at hl
  induction d with
  | zero =>
    intro i hi
    rw [List.drop_of_length_le (by omega)]
    refine ev_succ ?_
    simp only [record_Check.l0, if_neg (show ¬ (i : Int) < (l.length : Int) by omega)]
    exact Ev.now _
  | succ d ih =>
    intro i hi
    rw [rdT_drop l i (by omega)]
    have h := ih (i + 1) (by omega)
    rw [prevS_succ, show (((i + 1 : Nat) : Int)) = (i : Int) + 1 by omega] at h
    refine ev_succ ?_
    simp only [record_Check.l0, chkS, if_pos (show (i : Int) < (l.length : Int) by omega), if_pos (show (0 : Int) ≤ (i : Int) by omega), w64 (x := (i : Int) + 1) (by omega) (by omega), w64 (x := (i : Int) - 1) (by omega) (by omega)]
    refine Ev.bind (fault_f _ _ _) ?_
    by_cases h0 : fltS (rd_T50 l (i : Int)).f0 (rd_T50 l (i : Int)).f1 (rd_T50 l (i : Int)).f2 = 0
    · simp only [if_pos h0, h0, ne_eq, not_true, if_false]
      by_cases hz : (i : Int) = 0
      · have hz2 : i = 0 := by omega
        subst hz2
        simp only [if_pos hz, prevS, if_true]
        rw [if_neg (by rintro ⟨e, he, _⟩; cases he), if_neg (by rintro ⟨e, he, _⟩; cases he)]
        exact h
      · rw [prevS_pos l i (by omega) (by omega)]
        simp only [if_neg hz, if_pos (show 0 ≤ (i : Int) - 1 by omega), if_pos (show (i : Int) - 1 < (l.length : Int) by omega)]
        simp only [Option.some.injEq, exists_eq_left']
        by_cases h5 : (rd_T50 l (i : Int)).f1 > (rd_T50 l ((i : Int) - 1)).f2
        · simp only [if_pos h5]
          exact Ev.now _
        · by_cases h6 : (rd_T50 l (i : Int)).f1 < (rd_T50 l ((i : Int) - 1)).f2
          · simp only [if_neg h5, if_pos h6]
            exact Ev.now _
          · simp only [if_neg h5, if_neg h6]
            exact h
    · simp only [if_neg h0, ne_eq, h0, not_false_eq_true, if_true]
      exact Ev.now _
theorem check_f (l : List S50) (hl : l.length ≤ maxLen) : Ev (fun k => record_Check.f k l) (chkS l 0 none) := by
  unfold record_Check.f
  exact check_l0 l hl l.length 0 (by omega)

theorem rcheck_l0 (l : List S50) (hl : l.length ≤ maxLen) (d : Nat) : ∀ i : Nat, i + d = l.length → Ev (fun k => haulierref08_Check.l0 k l (i : Int)) (chkS (l.drop i) i (prevS l i)) := by
  unfold maxLen at hl
  induction d with
  | zero =>
    intro i hi
    rw [List.drop_of_length_le (by omega)]
    refine ev_succ ?_
    simp only [haulierref08_Check.l0, if_neg (show ¬ (i : Int) < (l.length : Int) by omega)]
    exact Ev.now _
  | succ d ih =>
    intro i hi
    rw [rdT_drop l i (by omega)]
    have h := ih (i + 1) (by omega)
    rw [prevS_succ, show (((i + 1 : Nat) : Int)) = (i : Int) + 1 by omega] at h
    generalize hr : rd_T50 l (i : Int) = r at h
    obtain ⟨a, b, c⟩ := r
    have h3 : ∀ z : Bool, fltS a b c = 0 → (z = true ↔ ∃ e, prevS l i = some e ∧ b > e) → Ev (fun k => haulierref08_Check.j3 k l (i : Int) z a b c) (chkS (⟨a, b, c⟩ :: l.drop (i + 1)) i (prevS l i)) := by
      intro z hf hz
      refine ev_succ ?_
      simp only [haulierref08_Check.j3, chkS, hf, ne_eq, not_true, if_false]
      by_cases hzt : z = true
      · simp only [if_pos hzt, if_pos (hz.1 hzt)]
        exact Ev.now _
      · have hz' : ¬ ∃ e, prevS l i = some e ∧ b > e := fun h => hzt (hz.2 h)
        simp only [if_neg hzt, if_neg hz']
        by_cases hi0 : (i : Int) > 0
        · rw [prevS_pos l i (by omega) (by omega)]
          simp only [if_pos hi0, w64 (x := (i : Int) - 1) (by omega) (by omega), w64 (x := (i : Int) + 1) (by omega) (by omega), if_pos (show 0 ≤ (i : Int) - 1 by omega), if_pos (show (i : Int) - 1 < (l.length : Int) by omega)]
          simp only [Option.some.injEq, exists_eq_left']
          by_cases h6 : b < (rd_T50 l ((i : Int) - 1)).f2
          · simp only [if_pos h6]
            exact Ev.now _
          · simp only [if_neg h6]
            exact h
        · have hz2 : i = 0 := by omega
          subst hz2
          simp only [if_neg hi0, prevS, if_true]
          rw [if_neg (by rintro ⟨e, he, _⟩; cases he)]
          simp only [w64 (x := ((0 : Nat) : Int) + 1) (by omega) (by omega)]
          exact h
    have h2 : ∀ z : Bool, ¬ (a < 0 ∨ a > 3) → (z = true ↔ b < 0 ∨ b > 40320 ∨ c < 0 ∨ c > 40320) → Ev (fun k => haulierref08_Check.j2 k l (i : Int) z a b c) (chkS (⟨a, b, c⟩ :: l.drop (i + 1)) i (prevS l i)) := by
      intro z ha hz
      refine ev_succ ?_
      simp only [haulierref08_Check.j2]
      by_cases hzt : z = true
      · have hf : fltS a b c = 4 := by unfold fltS; rw [if_neg ha, if_pos (hz.1 hzt)]
        simp only [if_pos hzt, chkS, hf]
        exact Ev.now _
      · have hz' : ¬ (b < 0 ∨ b > 40320 ∨ c < 0 ∨ c > 40320) := fun h => hzt (hz.2 h)
        by_cases hcb : c ≤ b
        · have hf : fltS a b c = 3 := by unfold fltS; rw [if_neg ha, if_neg hz', if_pos hcb]
          simp only [if_neg hzt, if_pos hcb, chkS, hf]
          exact Ev.now _
        · have hf : fltS a b c = 0 := by unfold fltS; rw [if_neg ha, if_neg hz', if_neg hcb]
          simp only [if_neg hzt, if_neg hcb]
          by_cases hi0 : (i : Int) > 0
          · simp only [if_pos hi0, w64 (x := (i : Int) - 1) (by omega) (by omega), if_pos (show 0 ≤ (i : Int) - 1 by omega), if_pos (show (i : Int) - 1 < (l.length : Int) by omega)]
            refine h3 _ hf ?_
            rw [prevS_pos l i (by omega) (by omega)]
            simp
          · simp only [if_neg hi0]
            refine h3 _ hf ?_
            have hz2 : i = 0 := by omega
            subst hz2
            simp [prevS]
    have h1 : ∀ z : Bool, (z = true ↔ a < 0 ∨ a > 3) → Ev (fun k => haulierref08_Check.j1 k l (i : Int) z a b c) (chkS (⟨a, b, c⟩ :: l.drop (i + 1)) i (prevS l i)) := by
      intro z hz
      refine ev_succ ?_
      simp only [haulierref08_Check.j1]
      by_cases hzt : z = true
      · have hf : fltS a b c = 2 := by unfold fltS; rw [if_pos (hz.1 hzt)]
        simp only [if_pos hzt, chkS, hf]
        exact Ev.now _
      · have ha : ¬ (a < 0 ∨ a > 3) := fun h => hzt (hz.2 h)
        simp only [if_neg hzt]
        by_cases c1 : b < 0
        · simp only [if_pos c1]
          exact h2 _ ha (by simp [c1])
        · by_cases c2 : b > 40320
          · simp only [if_neg c1, if_pos c2]
            exact h2 _ ha (by simp [c2])
          · by_cases c3 : c < 0
            · simp only [if_neg c1, if_neg c2, if_pos c3]
              exact h2 _ ha (by simp [c3])
            · simp only [if_neg c1, if_neg c2, if_neg c3]
              exact h2 _ ha (by simp; omega)
    refine ev_succ ?_
    simp only [haulierref08_Check.l0, hr, if_pos (show (i : Int) < (l.length : Int) by omega), if_pos (show (0 : Int) ≤ (i : Int) by omega)]
    by_cases ha : a < 0
    · simp only [if_pos ha]
      exact h1 _ (by simp [ha])
    · simp only [if_neg ha]
      exact h1 _ (by simp; omega)
theorem rcheck_f (l : List S50) (hl : l.length ≤ maxLen) : Ev (fun k => haulierref08_Check.f k l) (chkS l 0 none) := by
  unfold haulierref08_Check.f
  exact rcheck_l0 l hl l.length 0 (by omega)

def TL : Option Int → List S50 → Prop
  | _, [] => True
  | p, r :: l => fltS r.f0 r.f1 r.f2 = 0 ∧ (∀ e, p = some e → r.f1 = e) ∧ TL (some r.f2) l
theorem flt_pos (a b c : Int) : fltS a b c ≠ 0 ↔ (a < 0 ∨ a > 3 ∨ b < 0 ∨ c > 40320 ∨ c ≤ b) := by
  unfold fltS
  repeat' split
  all_goals simp
  all_goals omega
theorem flt_zero {a b c : Int} (h : fltS a b c = 0) : 0 ≤ a ∧ a ≤ 3 ∧ 0 ≤ b ∧ c ≤ 40320 ∧ b < c := by
  have := (flt_pos a b c)
  simp only [ne_eq, h, not_true, false_iff] at this
  omega
theorem chk_TL (l : List S50) : ∀ (i : Nat) (p : Option Int), (chkS l i p).2 = 0 ↔ TL p l := by
  induction l with
  | nil => intro i p; simp [chkS, TL]
  | cons r l ih =>
    intro i p
    simp only [chkS, TL]
    by_cases h0 : fltS r.f0 r.f1 r.f2 = 0
    · simp only [h0, ne_eq, not_true, if_false, true_and]
      by_cases h1 : ∃ e, p = some e ∧ r.f1 > e
      · rw [if_pos h1]
        obtain ⟨e, rfl, he⟩ := h1
        simp
        intro h2
        omega
      · rw [if_neg h1]
        by_cases h2 : ∃ e, p = some e ∧ r.f1 < e
        · rw [if_pos h2]
          obtain ⟨e, rfl, he⟩ := h2
          simp
          intro h2
          omega
        · rw [if_neg h2, ih]
          constructor
          · intro h
            refine ⟨fun e he => ?_, h⟩
            have a1 : ¬ r.f1 > e := fun h => h1 ⟨e, he, h⟩
            have a2 : ¬ r.f1 < e := fun h => h2 ⟨e, he, h⟩
            omega
          · exact fun h => h.2
    · simp only [h0, ne_eq, not_false_eq_true, if_true, false_and]
def stepR (out : List S50) (r : S50) : List S50 :=
  if 0 < out.length ∧ (rd_T50 out ((out.length : Int) - 1)).f0 = r.f0 then out.set (out.length - 1) ⟨(rd_T50 out ((out.length : Int) - 1)).f0, (rd_T50 out ((out.length : Int) - 1)).f1, r.f2⟩ else out ++ [r]
theorem rd_last (l : List S50) (x : S50) : rd_T50 (l ++ [x]) (((l ++ [x]).length : Int) - 1) = x := by
  unfold rd_T50
  rw [show (((l ++ [x]).length : Int) - 1).toNat = l.length by simp]
  simp
theorem stepR_nil (r : S50) : stepR [] r = [r] := by simp [stepR]
theorem stepR_snoc (l : List S50) (x r : S50) : stepR (l ++ [x]) r = if x.f0 = r.f0 then l ++ [⟨x.f0, x.f1, r.f2⟩] else l ++ [x, r] := by
  unfold stepR
  rw [rd_last]
  by_cases h : x.f0 = r.f0
  · rw [if_pos ⟨by simp, h⟩, if_pos h]
    simp
  · rw [if_neg (fun h2 => h h2.2), if_neg h]
    simp
theorem stepR_length (out : List S50) (r : S50) : (stepR out r).length ≤ out.length + 1 := by
  unfold stepR
  split
  · simp
  · simp
theorem stepR_two (out : List S50) (k b c b' c' : Int) : stepR (stepR out ⟨k, b, c⟩) ⟨k, b', c'⟩ = stepR out ⟨k, b, c'⟩ := by
  rcases List.eq_nil_or_concat out with rfl | ⟨l, x, rfl⟩
  · rw [stepR_nil, stepR_nil, show ([⟨k, b, c⟩] : List S50) = [] ++ [⟨k, b, c⟩] from rfl, stepR_snoc]
    simp
  · rw [List.concat_eq_append, stepR_snoc, stepR_snoc]
    simp only
    by_cases h : x.f0 = k
    · rw [if_pos h, if_pos h, stepR_snoc]
      simp [h]
    · rw [if_neg h, if_neg h, show l ++ [x, ⟨k, b, c⟩] = (l ++ [x]) ++ [⟨k, b, c⟩] by simp, stepR_snoc]
      simp
def ofFold : List S50 → Int → List Int → List S50
  | out, _, [] => out
  | out, m, k :: ks => ofFold (stepR out ⟨k, m, m + 1⟩) (m + 1) ks
theorem ofFold_app (ks ks' : List Int) : ∀ (out : List S50) (m : Int), ofFold out m (ks ++ ks') = ofFold (ofFold out m ks) (m + ks.length) ks' := by
  induction ks with
  | nil => intro out m; simp [ofFold]
  | cons k ks ih =>
    intro out m
    simp only [List.cons_append, ofFold, ih, List.length_cons]
    congr 1
    omega
theorem ofFold_run (k : Int) (n : Nat) : ∀ (out : List S50) (m : Int), ofFold out m (List.replicate (n + 1) k) = stepR out ⟨k, m, m + n + 1⟩ := by
  induction n with
  | zero => intro out m; simp [ofFold]
  | succ n ih =>
    intro out m
    rw [List.replicate_succ, ofFold, ih, stepR_two]
    congr 2
    omega
def kindsS (l : List S50) : List Int := l.flatMap fun r => List.replicate (r.f2 - r.f1).toNat r.f0
def endS : Int → List S50 → Int
  | e, [] => e
  | _, r :: l => endS r.f2 l
theorem TL_kinds (l : List S50) : ∀ e, TL (some e) l → e + (kindsS l).length = endS e l ∧ (e ≤ 40320 → endS e l ≤ 40320) := by
  induction l with
  | nil => intro e _; simp [kindsS, endS]
  | cons r l ih =>
    intro e h
    obtain ⟨h0, h1, h2⟩ := h
    have h3 := flt_zero h0
    have h4 := h1 e rfl
    obtain ⟨h5, h6⟩ := ih _ h2
    simp only [kindsS, List.flatMap_cons, List.length_append, List.length_replicate, endS] at h5 ⊢
    constructor
    · omega
    · intro _; exact h6 (by omega)
theorem TL_of (l : List S50) : ∀ (out : List S50) (e : Int), TL (some e) l → ofFold out e (kindsS l) = l.foldl stepR out := by
  induction l with
  | nil => intro out e _; rfl
  | cons r l ih =>
    intro out e h
    obtain ⟨h0, h1, h2⟩ := h
    have h3 := flt_zero h0
    have h4 := h1 e rfl
    subst h4
    obtain ⟨n, hn⟩ : ∃ n, (r.f2 - r.f1).toNat = n + 1 := ⟨(r.f2 - r.f1).toNat - 1, by omega⟩
    have he : r.f1 + (n : Int) + 1 = r.f2 := by omega
    simp only [kindsS, List.flatMap_cons, List.foldl_cons]
    rw [hn, ofFold_app, ofFold_run, he, List.length_replicate, show r.f1 + ((n + 1 : Nat) : Int) = r.f2 by omega]
    exact ih _ _ h2
def begS (l : List S50) : Int := match l with | [] => 0 | r :: _ => r.f1
theorem TL_some (l : List S50) (h : TL none l) : TL (some (begS l)) l := by
  cases l with
  | nil => trivial
  | cons r l => exact ⟨h.1, fun e he => by injection he, h.2.2⟩
theorem TL_len (l : List S50) (h : TL none l) : (kindsS l).length ≤ 40320 ∧ 0 ≤ begS l ∧ begS l ≤ 40320 := by
  have h1 := TL_kinds l _ (TL_some l h)
  have h2 : 0 ≤ begS l ∧ begS l ≤ 40320 := by
    cases l with
    | nil => simp [begS]
    | cons r l =>
      have := flt_zero h.1
      simp only [begS]
      omega
  have := h1.2 h2.2
  omega
def mergeS (l : List S50) : List S50 := l.foldl stepR []
def normS (l : List S50) : List S50 × Int := if (chkS l 0 none).2 = 0 then (mergeS l, 0) else ([], (chkS l 0 none).2)
theorem norm_of (l : List S50) (h : TL none l) : ofFold [] (begS l) (kindsS l) = mergeS l := TL_of l [] _ (TL_some l h)

theorem neq50 (x y : S50) : (!(x.f0 == y.f0) || (!(x.f1 == y.f1) || (!(x.f2 == y.f2)))) = true ↔ x ≠ y := by
  obtain ⟨a, b, c⟩ := x
  obtain ⟨d, e, f⟩ := y
  simp only [Bool.or_eq_true, Bool.not_eq_true', beq_eq_false_iff_ne, ne_eq, S50.mk.injEq]
  omega
instance decS50 : DecidableEq S50 := fun x y => decidable_of_iff (x.f0 = y.f0 ∧ x.f1 = y.f1 ∧ x.f2 = y.f2) (by cases x; cases y; simp)
def sameS (a b : List S50) : Bool := decide (a = b)
theorem sameS_true {a b : List S50} : sameS a b = true ↔ a = b := by simp [sameS]
theorem sameS_refl (a : List S50) : sameS a a = true := sameS_true.2 rfl
theorem sameS_cons (x y : S50) (a b : List S50) : sameS (x :: a) (y :: b) = if x ≠ y then false else sameS a b := by
  by_cases h : x = y
  · rw [if_neg (by simp [h])]
    rw [Bool.eq_iff_iff, sameS_true, sameS_true]
    simp [h]
  · rw [if_pos h, Bool.eq_false_iff, ne_eq, sameS_true]
    simp [h]
theorem sameS_len {a b : List S50} (h : a.length ≠ b.length) : sameS a b = false := by
  rw [Bool.eq_false_iff, ne_eq, sameS_true]
  intro e
  exact h (by rw [e])
theorem same_l0 (a b : List S50) (ha : a.length ≤ 140737488351232) (hab : a.length = b.length) (d : Nat) : ∀ i : Nat, i + d = a.length → Ev (fun k => haulierref08_Same.l0 k a b (i : Int)) (sameS (a.drop i) (b.drop i)) := by
  induction d with
  | zero =>
    intro i hi
    rw [List.drop_of_length_le (by omega), List.drop_of_length_le (by omega), sameS_refl]
    refine ev_succ ?_
    simp only [haulierref08_Same.l0, if_neg (show ¬ (i : Int) < (a.length : Int) by omega)]
    exact Ev.now _
  | succ d ih =>
    intro i hi
    rw [rdT_drop a i (by omega), rdT_drop b i (by omega), sameS_cons]
    have h := ih (i + 1) (by omega)
    rw [show (((i + 1 : Nat) : Int)) = (i : Int) + 1 by omega] at h
    refine ev_succ ?_
    simp only [haulierref08_Same.l0, if_pos (show (i : Int) < (a.length : Int) by omega), if_pos (show (0 : Int) ≤ (i : Int) by omega), if_pos (show (i : Int) < (b.length : Int) by omega), w64 (x := (i : Int) + 1) (by omega) (by omega), neq50]
    by_cases h0 : rd_T50 a (i : Int) = rd_T50 b (i : Int)
    · simp only [ne_eq, h0, not_true, if_false]
      exact h
    · simp only [ne_eq, h0, not_false_eq_true, if_true]
      exact Ev.now _
theorem same_f (a b : List S50) (ha : a.length ≤ 140737488351232) : Ev (fun k => haulierref08_Same.f k a b) (sameS a b) := by
  unfold haulierref08_Same.f
  by_cases h : a.length = b.length
  · simp only [if_pos (show (a.length : Int) = (b.length : Int) by omega)]
    exact same_l0 a b ha h a.length 0 (by omega)
  · simp only [if_neg (show ¬ (a.length : Int) = (b.length : Int) by omega), sameS_len h]
    exact Ev.now _

theorem kinds_l1 (l : List S50) (hl : l.length ≤ 1000000) (i : Nat) (hi : i < l.length) (r : List Int) (n : Nat) : ∀ (out : List Int) (m : Int), -9223372036854775808 ≤ m → m + n ≤ 9223372036854775807 → (m + n = (rd_T50 l (i : Int)).f2 ∨ (n = 0 ∧ (rd_T50 l (i : Int)).f2 ≤ m)) → out.length + n ≤ 17592186044415 →
    Ev (fun k => haulierref08_Kinds.l0 k l (out ++ List.replicate n (rd_T50 l (i : Int)).f0) ((i : Int) + 1)) r → Ev (fun k => haulierref08_Kinds.l1 k l out (i : Int) m) r := by
  induction n with
  | zero =>
    intro out m h0 h1 h2 h3 h
    refine ev_succ ?_
    simp only [haulierref08_Kinds.l1, if_pos (show (0 : Int) ≤ (i : Int) by omega), if_pos (show (i : Int) < (l.length : Int) by omega), if_neg (show ¬ m < (rd_T50 l (i : Int)).f2 by omega), w64 (x := (i : Int) + 1) (by omega) (by omega)]
    simpa using h
  | succ n ih =>
    intro out m h0 h1 h2 h3 h
    refine ev_succ ?_
    simp only [haulierref08_Kinds.l1, if_pos (show (0 : Int) ≤ (i : Int) by omega), if_pos (show (i : Int) < (l.length : Int) by omega), if_pos (show m < (rd_T50 l (i : Int)).f2 by omega), w64 (x := m + 1) (by omega) (by omega), if_pos (show out.length < 17592186044416 by omega)]
    refine ih _ _ (by omega) (by omega) (by omega) (by simp; omega) ?_
    rw [List.append_assoc]
    exact h
theorem kinds_l0 (l : List S50) (hl : l.length ≤ 1000000) (d : Nat) : ∀ (i : Nat) (out : List Int) (e : Int), i + d = l.length → TL (some e) (l.drop i) → out.length + (kindsS (l.drop i)).length ≤ 17592186044415 →
    Ev (fun k => haulierref08_Kinds.l0 k l out (i : Int)) (out ++ kindsS (l.drop i)) := by
  induction d with
  | zero =>
    intro i out e hi _ _
    rw [List.drop_of_length_le (by omega)]
    refine ev_succ ?_
    simp only [haulierref08_Kinds.l0, if_neg (show ¬ (i : Int) < (l.length : Int) by omega), kindsS, List.flatMap_nil, List.append_nil]
    exact Ev.now _
  | succ d ih =>
    intro i out e hi ht hb
    rw [rdT_drop l i (by omega)] at ht hb ⊢
    obtain ⟨t0, t1, t2⟩ := ht
    have h3 := flt_zero t0
    simp only [kindsS, List.flatMap_cons, List.length_append, List.length_replicate] at hb
    have h := ih (i + 1) (out ++ List.replicate ((rd_T50 l (i : Int)).f2 - (rd_T50 l (i : Int)).f1).toNat (rd_T50 l (i : Int)).f0) _ (by omega) t2 (by simp only [kindsS, List.length_append, List.length_replicate]; omega)
    rw [show (((i + 1 : Nat) : Int)) = (i : Int) + 1 by omega] at h
    refine ev_succ ?_
    simp only [haulierref08_Kinds.l0, if_pos (show (i : Int) < (l.length : Int) by omega), if_pos (show (0 : Int) ≤ (i : Int) by omega)]
    refine kinds_l1 l hl i (by omega) _ ((rd_T50 l (i : Int)).f2 - (rd_T50 l (i : Int)).f1).toNat out _ (by omega) (by omega) (by omega) (by omega) ?_
    simp only [kindsS, List.flatMap_cons]
    rw [← List.append_assoc]
    exact h
theorem kinds_f (l : List S50) (hl : l.length ≤ 1000000) (h : TL none l) : Ev (fun k => haulierref08_Kinds.f k l) (kindsS l) := by
  unfold haulierref08_Kinds.f
  have h1 := TL_len l h
  have := kinds_l0 l hl l.length 0 [] (begS l) (by omega) (TL_some l h) (by simp; omega)
  simpa using this
theorem begin_f (l : List S50) : haulierref08_Begin.f l = some (begS l) := by
  unfold haulierref08_Begin.f begS
  cases l with
  | nil => rfl
  | cons r l =>
    rw [if_neg (by simp only [List.length_cons]; omega), if_pos (by simp only [List.length_cons]; omega)]
    rfl

theorem of_l0 (at_ : Int) (ks : List Int) (hk : ks.length ≤ 100000) (ha : 0 ≤ at_) (ha1 : at_ ≤ 1000000) (d : Nat) : ∀ (i : Nat) (out : List S50), i + d = ks.length → out.length ≤ i → Ev (fun k => haulierref08_Of.l0 k at_ ks out (i : Int)) (ofFold out (at_ + i) (ks.drop i)) := by
  induction d with
  | zero =>
    intro i out hi ho
    rw [List.drop_of_length_le (by omega)]
    refine ev_succ ?_
    simp only [haulierref08_Of.l0, if_neg (show ¬ (i : Int) < (ks.length : Int) by omega), ofFold]
    exact Ev.now _
  | succ d ih =>
    intro i out hi ho
    rw [rd_drop ks i (by omega)]
    have h := ih (i + 1) (stepR out ⟨rd ks (i : Int), at_ + i, at_ + i + 1⟩) (by omega) (by have := stepR_length out ⟨rd ks (i : Int), at_ + i, at_ + i + 1⟩; omega)
    rw [show (((i + 1 : Nat) : Int)) = (i : Int) + 1 by omega, show at_ + ((i : Int) + 1) = at_ + i + 1 by omega] at h
    refine ev_succ ?_
    simp only [haulierref08_Of.l0, ofFold, if_pos (show (i : Int) < (ks.length : Int) by omega), if_pos (show (0 : Int) ≤ (i : Int) by omega), w64 (x := (i : Int) + 1) (by omega) (by omega), w64 (x := (out.length : Int) - 1) (by omega) (by omega), if_pos (show out.length < 5864062014805 by omega), w64 (x := at_ + (i : Int)) (by omega) (by omega), w64 (x := at_ + (i : Int) + 1) (by omega) (by omega)]
    by_cases h0 : 0 < out.length
    · simp only [if_pos (show (out.length : Int) > 0 by omega), if_pos (show 0 ≤ (out.length : Int) - 1 by omega), if_pos (show (out.length : Int) - 1 < (out.length : Int) by omega), show ((out.length : Int) - 1).toNat = out.length - 1 by omega]
      by_cases h1 : (rd_T50 out ((out.length : Int) - 1)).f0 = rd ks (i : Int)
      · simp only [if_pos h1]
        have hs : stepR out ⟨rd ks (i : Int), at_ + i, at_ + i + 1⟩ = out.set (out.length - 1) ⟨(rd_T50 out ((out.length : Int) - 1)).f0, (rd_T50 out ((out.length : Int) - 1)).f1, at_ + i + 1⟩ := by unfold stepR; rw [if_pos ⟨h0, h1⟩]
        rw [hs] at h ⊢
        exact h
      · simp only [if_neg h1]
        have hs : stepR out ⟨rd ks (i : Int), at_ + i, at_ + i + 1⟩ = out ++ [⟨rd ks (i : Int), at_ + i, at_ + i + 1⟩] := by unfold stepR; rw [if_neg (fun h => h1 h.2)]
        rw [hs] at h ⊢
        exact h
    · simp only [if_neg (show ¬ (out.length : Int) > 0 by omega)]
      have hs : stepR out ⟨rd ks (i : Int), at_ + i, at_ + i + 1⟩ = out ++ [⟨rd ks (i : Int), at_ + i, at_ + i + 1⟩] := by unfold stepR; rw [if_neg (fun h => h0 h.1)]
      rw [hs] at h ⊢
      exact h
theorem of_f (at_ : Int) (ks : List Int) (hk : ks.length ≤ 100000) (ha : 0 ≤ at_) (ha1 : at_ ≤ 1000000) : Ev (fun k => haulierref08_Of.f k at_ ks) (ofFold [] at_ ks) := by
  unfold haulierref08_Of.f
  have := of_l0 at_ ks hk ha ha1 ks.length 0 [] (by omega) (by simp)
  simpa using this

/-! kinds and letters; alive -/
open Go.Proofs.Ytegmofaiobdilaa.Vw1 (mins minsR lenR Rec) 
open Go.Proofs.Ytegmofaiobdilaa.Vw3 (letter txt)
open Go.Proofs.Ytegmofaiobdilaa.Vw4 (kindJ kindS)
def kd (c : Int) : Int × Bool := if c = 82 then (0, true) else if c = 65 then (1, true) else if c = 87 then (2, true) else if c = 68 then (3, true) else (0, false)
theorem kindS_nat : ∀ n, n < 256 → kindS ((n : Nat) : Int) = kd ((n : Nat) : Int) := by
  set_option maxRecDepth 100000 in
  decide
theorem kindS_kd (c : Int) (h0 : 0 ≤ c) (h1 : c ≤ 255) : kindS c = kd c := by
  obtain ⟨n, rfl⟩ := Int.eq_ofNat_of_zero_le h0
  exact kindS_nat n (by omega)
theorem vkind_f (c : Int) (h0 : 0 ≤ c) (h1 : c ≤ 255) : view_Kind.f c = some (kd c) := by
  unfold view_Kind.f
  rw [kindS_kd c h0 h1]
theorem kd_cases (c : Int) : (c = 82 ∧ kd c = (0, true)) ∨ (c = 65 ∧ kd c = (1, true)) ∨ (c = 87 ∧ kd c = (2, true)) ∨ (c = 68 ∧ kd c = (3, true)) ∨ (c ≠ 82 ∧ c ≠ 65 ∧ c ≠ 87 ∧ c ≠ 68 ∧ kd c = (0, false)) := by
  unfold kd
  by_cases h1 : c = 82
  · simp [h1]
  by_cases h2 : c = 65
  · simp [h2]
  by_cases h3 : c = 87
  · simp [h3]
  by_cases h4 : c = 68
  · simp [h4]
  · simp [h1, h2, h3, h4]
theorem alive_f : Ev (fun k => haulierlaw09_alive.f k) true := Ev.of (fun k => haulierlaw09_alive.mono k) (k := 10) (by kernel_rfl)

theorem b0 : bt (⟨#[82, 65, 87, 68]⟩ : ByteArray) 0 = 82 ∧ bt (⟨#[82, 65, 87, 68]⟩ : ByteArray) 1 = 65 ∧ bt (⟨#[82, 65, 87, 68]⟩ : ByteArray) 2 = 87 ∧ bt (⟨#[82, 65, 87, 68]⟩ : ByteArray) 3 = 68 := ⟨rfl, rfl, rfl, rfl⟩
theorem refkind_f (c : Int) : Ev (fun k => haulierref09_Kind.f k c) (kd c) := by
  refine ⟨10, fun k hk => ?_⟩
  obtain ⟨m, rfl⟩ : ∃ m, k = m + 5 := ⟨k - 5, by omega⟩
  obtain ⟨h0, h1, h2, h3⟩ := b0
  have w0 : wrap64 (0 + 1) = 1 := w64 (x := 0 + 1) (by omega) (by omega)
  have w1 : wrap64 (1 + 1) = 2 := w64 (x := 1 + 1) (by omega) (by omega)
  have w2 : wrap64 (2 + 1) = 3 := w64 (x := 2 + 1) (by omega) (by omega)
  have w3 : wrap64 (3 + 1) = 4 := w64 (x := 3 + 1) (by omega) (by omega)
  unfold kd haulierref09_Kind.f
  simp only [haulierref09_Kind.l0, h0, h1, h2, h3, w0, w1, w2, w3]
  by_cases e1 : c = 82
  · subst e1; rfl
  by_cases e2 : c = 65
  · subst e2; rfl
  by_cases e3 : c = 87
  · subst e3; rfl
  by_cases e4 : c = 68
  · subst e4; rfl
  · simp [e1, e2, e3, e4, Ne.symm e1, Ne.symm e2, Ne.symm e3, Ne.symm e4]

/-! the view of a timeline -/
def SB (l : List UInt8) : ByteArray := ⟨l.toArray⟩
theorem minsR_snd (r : Rec) (d : Nat) : (minsR r d).map (fun p => p.2) = List.replicate d r.1 := by
  unfold minsR
  rw [List.map_map]
  apply List.ext_getElem
  · simp
  · intro i h1 h2
    simp
theorem mins_kinds (l : List S50) : (mins (l.map view_Of.tQ)).map (fun p => p.2) = kindsS l := by
  induction l with
  | nil => rfl
  | cons r l ih =>
    simp only [mins, List.map_cons, List.flatMap_cons, List.map_append, kindsS] at ih ⊢
    rw [ih, minsR_snd]
    rfl
theorem txt_kinds (l : List S50) : txt (mins (l.map view_Of.tQ)) = (kindsS l).map letter := by
  rw [← mins_kinds, List.map_map]
  rfl
theorem TL_okR (l : List S50) : ∀ p, TL p l → l.all view_Of.okR = true := by
  induction l with
  | nil => intro p _; rfl
  | cons r l ih =>
    intro p h
    have h0 := flt_zero h.1
    rw [List.all_cons, ih _ h.2.2, Bool.and_true]
    exact decide_eq_true (by omega)
def ofV (l : List S50) : Int × ByteArray × Int := if (chkS l 0 none).2 = 0 then (begS l, SB ((kindsS l).map letter), 0) else (0, ⟨#[]⟩, (chkS l 0 none).2)
theorem vof_f (l : List S50) (hl : l.length ≤ maxLen) : Ev (fun k => view_Of.f k l) (ofV l) := by
  unfold view_Of.f ofV
  refine Ev.bind (check_f l hl) ?_
  by_cases h : (chkS l 0 none).2 = 0
  · simp only [if_pos h]
    have hT := (chk_TL l 0 none).1 h
    unfold view_Of.ofS
    by_cases h0 : l.length = 0
    · obtain rfl := List.length_eq_zero_iff.1 h0
      simp only [if_pos h0]
      exact Ev.now _
    · simp only [if_neg h0]
      have hm : (mins (l.map view_Of.tQ)).length = (kindsS l).length := by rw [← mins_kinds, List.length_map]
      have hk := TL_len l hT
      rw [if_pos ⟨TL_okR l none hT, by omega⟩, txt_kinds]
      have hb : (rd_T50 l 0).f1 = begS l := by
        cases l with
        | nil => exact absurd rfl h0
        | cons r t => rfl
      rw [hb]
      exact Ev.now _
  · simp only [if_neg h]
    exact Ev.now _

/-! the view of a timeline, by the document -/
theorem SB_app (a b : List UInt8) : SB a ++ SB b = SB (a ++ b) := by
  apply ByteArray.ext
  simp [SB, ByteArray.data_append]
theorem letter_ex (k : Int) (h : 0 ≤ k ∧ k ≤ 3) : (⟨#[82, 65, 87, 68]⟩ : ByteArray).extract k.toNat (k + 1).toNat = SB [letter k] := by
  have : k = 0 ∨ k = 1 ∨ k = 2 ∨ k = 3 := by omega
  rcases this with rfl | rfl | rfl | rfl <;> rfl
theorem SB_size (l : List UInt8) : (SB l).size = l.length := by
  simp [SB, ByteArray.size]
theorem text_l0 (ks : List Int) (hk : ∀ k ∈ ks, 0 ≤ k ∧ k ≤ 3) (hl : ks.length ≤ 1000000) (d : Nat) : ∀ i : Nat, i + d = ks.length → Ev (fun k => haulierref09_Text.l0 k ks (SB ((ks.take i).map letter)) (i : Int)) (SB (ks.map letter)) := by
  induction d with
  | zero =>
    intro i hi
    refine ev_succ ?_
    simp only [haulierref09_Text.l0, if_neg (show ¬ (i : Int) < (ks.length : Int) by omega)]
    rw [List.take_of_length_le (by omega)]
    exact Ev.now _
  | succ d ih =>
    intro i hi
    have h := ih (i + 1) (by omega)
    have hr := hk _ (rd_mem ks i (by omega))
    have e : SB ((ks.take (i + 1)).map letter) = SB ((ks.take i).map letter) ++ SB [letter (rd ks (i : Int))] := by
      rw [SB_app]
      congr 1
      rw [List.take_add_one, List.map_append]
      congr 1
      simp [rd, show i < ks.length by omega]
    rw [show (((i + 1 : Nat) : Int)) = (i : Int) + 1 by omega, e] at h
    refine ev_succ ?_
    have hs : (SB ((ks.take i).map letter)).size + (SB [letter (rd ks (i : Int))]).size ≤ 9223372036854775807 := by
      rw [SB_size, SB_size]
      simp
      omega
    simp only [haulierref09_Text.l0, if_pos (show (i : Int) < (ks.length : Int) by omega), if_pos (show (0 : Int) ≤ (i : Int) by omega), if_pos hr.1, w64 (x := rd ks (i : Int) + 1) (by omega) (by omega), if_pos (show rd ks (i : Int) ≤ rd ks (i : Int) + 1 by omega), if_pos (show rd ks (i : Int) + 1 ≤ 4 by omega), letter_ex _ hr, if_pos hs, w64 (x := (i : Int) + 1) (by omega) (by omega)]
    exact h
theorem text_f (ks : List Int) (hk : ∀ k ∈ ks, 0 ≤ k ∧ k ≤ 3) (hl : ks.length ≤ 1000000) : Ev (fun k => haulierref09_Text.f k ks) (SB (ks.map letter)) := by
  unfold haulierref09_Text.f
  exact text_l0 ks hk hl ks.length 0 (by omega)
theorem kinds_in (l : List S50) : ∀ p, TL p l → ∀ x ∈ kindsS l, 0 ≤ x ∧ x ≤ 3 := by
  induction l with
  | nil => intro p _ x hx; simp [kindsS] at hx
  | cons r l ih =>
    intro p h x hx
    simp only [kindsS, List.flatMap_cons, List.mem_append, List.mem_replicate] at hx
    rcases hx with ⟨_, rfl⟩ | hx
    · have := flt_zero h.1
      omega
    · exact ih _ h.2.2 x hx
theorem rof_f (l : List S50) (hl : l.length ≤ 1000000) : Ev (fun k => haulierref09_Of.f k l) (ofV l) := by
  unfold haulierref09_Of.f ofV
  refine Ev.bind (rcheck_f l (Nat.le_trans hl (by unfold maxLen; omega))) ?_
  by_cases h : (chkS l 0 none).2 = 0
  · simp only [if_pos h]
    have hT := (chk_TL l 0 none).1 h
    rw [begin_f]
    simp only [Option.bind_some]
    refine Ev.bind (kinds_f l hl hT) ?_
    refine Ev.bind (text_f _ (kinds_in l none hT) (by have := TL_len l hT; omega)) ?_
    exact Ev.now _
  · simp only [if_neg h]
    exact Ev.now _

/-! the timeline of a view -/
def kindsOf : List Int → Option (List Int)
  | [] => some []
  | x :: t => if (kd x).2 = true then (kindsOf t).map (fun l => (kd x).1 :: l) else none
def fromV (at_ : Int) (s : ByteArray) : List S50 × Int := if at_ < 0 ∨ at_ > 40320 ∨ (s.size : Int) > 40320 - at_ then ([], 4) else match kindsOf (bl s) with | none => ([], 2) | some ks => (ofFold [] at_ ks, 0)
theorem kd_inj (x y : Int) (hx : (kd x).2 = true) (hy : (kd y).2 = true) (h : (kd x).1 = (kd y).1) : x = y := by
  rcases kd_cases x with ⟨rfl, e⟩ | ⟨rfl, e⟩ | ⟨rfl, e⟩ | ⟨rfl, e⟩ | ⟨_, _, _, _, e⟩ <;> rw [e] at h hx <;>
  rcases kd_cases y with ⟨rfl, f⟩ | ⟨rfl, f⟩ | ⟨rfl, f⟩ | ⟨rfl, f⟩ | ⟨_, _, _, _, f⟩ <;> rw [f] at h hy <;> simp at h hx hy <;> rfl
theorem from_l0 (at_ : Int) (h0 : 0 ≤ at_) (h1 : at_ ≤ 40320) (s : ByteArray) (hs : s.size ≤ 40320) (d : Nat) : ∀ (p : Nat) (acc : List S50), p + d = s.size → acc.length ≤ p →
    ((p = 0 ∧ acc = []) ∨ (0 < p ∧ ∃ a0 e, acc = a0 ++ [e] ∧ e.f0 = (kd (bt s ((p : Int) - 1))).1 ∧ (kd (bt s ((p : Int) - 1))).2 = true ∧ e.f2 = at_ + p)) →
    Ev (fun k => view_From.l0 k at_ s acc (s.size : Int) (p : Int)) (match kindsOf ((bl s).drop p) with | none => ([], 2) | some ks => (ofFold acc (at_ + p) ks, 0)) := by
  induction d with
  | zero =>
    intro p acc hp hl ha
    refine ev_succ ?_
    simp only [view_From.l0, if_neg (show ¬ (p : Int) < (s.size : Int) by omega)]
    rw [List.drop_of_length_le (by rw [bl_length]; omega)]
    simp only [kindsOf, ofFold]
    exact Ev.now _
  | succ d ih =>
    intro p acc hp hl ha
    have hb := bt_range s (p : Int)
    rw [bl_drop s p (by omega), kindsOf]
    refine ev_succ ?_
    simp only [view_From.l0, if_pos (show (p : Int) < (s.size : Int) by omega), if_pos (show (0 : Int) ≤ (p : Int) by omega)]
    rw [vkind_f _ hb.1 hb.2]
    simp only [Option.bind_some]
    by_cases v : (kd (bt s (p : Int))).2 = true
    · simp only [if_pos v]
      have hnx : ∀ e : S50, ∀ a0, stepR acc ⟨(kd (bt s (p : Int))).1, at_ + p, at_ + p + 1⟩ = a0 ++ [e] → (a0 ++ [e]).length ≤ p + 1 → e.f0 = (kd (bt s (p : Int))).1 → e.f2 = at_ + p + 1 →
          Ev (fun k => view_From.l0 k at_ s (a0 ++ [e]) (s.size : Int) ((p : Int) + 1)) (match (kindsOf ((bl s).drop (p + 1))).map (fun l => (kd (bt s (p : Int))).1 :: l) with | none => ([], 2) | some ks => (ofFold acc (at_ + p) ks, 0)) := by
        intro e a0 hst hlen he0 he2
        have h := ih (p + 1) (a0 ++ [e]) (by omega) hlen (.inr ⟨by omega, a0, e, rfl, by rw [show (((p + 1 : Nat) : Int)) - 1 = (p : Int) by omega]; exact he0, by rw [show (((p + 1 : Nat) : Int)) - 1 = (p : Int) by omega]; exact v, by rw [he2]; omega⟩)
        rw [show (((p + 1 : Nat) : Int)) = (p : Int) + 1 by omega] at h
        cases hk : kindsOf ((bl s).drop (p + 1)) with
        | none =>
          rw [hk] at h
          exact h
        | some ks =>
          rw [hk] at h
          simp only [Option.map_some, ofFold]
          rw [hst, Int.add_assoc]
          exact h
      have hw1 : wrap64 ((p : Int) + 1) = (p : Int) + 1 := w64 (by omega) (by omega)
      have hw2 : wrap64 (at_ + (p : Int)) = at_ + p := w64 (by omega) (by omega)
      have hw3 : wrap64 (at_ + (p : Int) + 1) = at_ + p + 1 := w64 (by omega) (by omega)
      rcases ha with ⟨rfl, rfl⟩ | ⟨p0, a0, e, rfl, he0, hev, he2⟩
      · simp only [if_neg (show ¬ (((0 : Nat) : Int) > 0) by omega), hw1, hw2, hw3, List.length_nil, if_pos (show 0 < 5864062014805 by omega)]
        exact hnx ⟨(kd (bt s ((0 : Nat) : Int))).1, at_ + ((0 : Nat) : Int), at_ + ((0 : Nat) : Int) + 1⟩ [] (stepR_nil _) (by simp) rfl rfl
      · simp only [if_pos (show (p : Int) > 0 by omega), w64 (x := (p : Int) - 1) (by omega) (by omega), if_pos (show (0 : Int) ≤ (p : Int) - 1 by omega), if_pos (show (p : Int) - 1 < (s.size : Int) by omega), hw1, hw2, hw3]
        have hlen : (a0 ++ [e]).length = a0.length + 1 := by simp
        by_cases c : bt s (p : Int) = bt s ((p : Int) - 1)
        · simp only [if_pos c, w64 (x := ((a0 ++ [e]).length : Int) - 1) (by omega) (by omega), if_pos (show (0 : Int) ≤ ((a0 ++ [e]).length : Int) - 1 by omega), if_pos (show ((a0 ++ [e]).length : Int) - 1 < ((a0 ++ [e]).length : Int) by omega)]
          rw [rd_last]
          have hw4 : wrap64 (e.f2 + 1) = at_ + p + 1 := by rw [he2]; exact hw3
          simp only [hw4]
          rw [show (((a0 ++ [e]).length : Int) - 1).toNat = a0.length by omega, List.set_append_right _ _ (Nat.le_refl _), Nat.sub_self, List.set_cons_zero]
          rw [← c] at he0
          have hst : stepR (a0 ++ [e]) ⟨(kd (bt s (p : Int))).1, at_ + p, at_ + p + 1⟩ = a0 ++ [⟨e.f0, e.f1, at_ + p + 1⟩] := by rw [stepR_snoc, if_pos he0]
          have := hnx ⟨e.f0, e.f1, at_ + p + 1⟩ a0 hst (by simp; omega) he0 rfl
          rw [c] at this ⊢
          exact this
        · have hne : ¬ e.f0 = (kd (bt s (p : Int))).1 := fun q => c (kd_inj _ _ v hev (by rw [← q, he0]))
          simp only [if_neg c, if_pos (show (a0 ++ [e]).length < 5864062014805 by omega)]
          have hst : stepR (a0 ++ [e]) ⟨(kd (bt s (p : Int))).1, at_ + p, at_ + p + 1⟩ = (a0 ++ [e]) ++ [⟨(kd (bt s (p : Int))).1, at_ + p, at_ + p + 1⟩] := by
            rw [stepR_snoc, if_neg hne]
            simp
          exact hnx _ _ hst (by simp; omega) rfl rfl
    · simp only [if_neg v]
      exact Ev.now _
theorem from_f (at_ : Int) (ha : -9223372036854775808 ≤ at_) (s : ByteArray) : Ev (fun k => view_From.f k at_ s) (fromV at_ s) := by
  unfold view_From.f fromV
  have hbad : Ev (fun k => view_From.j0 k at_ s true) (([] : List S50), (4 : Int)) := by
    refine ev_succ ?_
    simp only [view_From.j0, if_true]
    exact Ev.now _
  by_cases c1 : at_ < 0
  · simp only [if_pos c1]
    rw [if_pos (.inl c1)]
    exact hbad
  by_cases c2 : at_ > 40320
  · simp only [if_neg c1, if_pos c2]
    rw [if_pos (.inr (.inl c2))]
    exact hbad
  simp only [if_neg c1, if_neg c2, w64 (x := 40320 - at_) (by omega) (by omega)]
  by_cases c3 : (s.size : Int) > 40320 - at_
  · rw [if_pos (.inr (.inr c3)), decide_eq_true c3]
    exact hbad
  · rw [if_neg (by omega), decide_eq_false c3]
    refine ev_succ ?_
    simp only [view_From.j0, Bool.false_eq_true, if_false]
    have h := from_l0 at_ (by omega) (by omega) s (by omega) s.size 0 [] (by omega) (Nat.le_refl _) (.inl ⟨rfl, rfl⟩)
    rw [List.drop_zero, show at_ + ((0 : Nat) : Int) = at_ by omega] at h
    exact h

/-! the timeline of a view, by the document -/
theorem rfrom_l0 (at_ : Int) (h0 : 0 ≤ at_) (h1 : at_ ≤ 40320) (s : ByteArray) (hs : s.size ≤ 40320) (d : Nat) : ∀ (p : Nat) (ks : List Int), p + d = s.size → ks.length = p →
    Ev (fun k => haulierref09_From.l0 k at_ s ks (p : Int)) (match kindsOf ((bl s).drop p) with | none => ([], 2) | some ks' => (ofFold [] at_ (ks ++ ks'), 0)) := by
  induction d with
  | zero =>
    intro p ks hp hl
    refine ev_succ ?_
    simp only [haulierref09_From.l0, if_neg (show ¬ (p : Int) < (s.size : Int) by omega)]
    rw [List.drop_of_length_le (by rw [bl_length]; omega)]
    simp only [kindsOf, List.append_nil]
    exact Ev.bind (of_f at_ ks (by omega) h0 (by omega)) (Ev.now _)
  | succ d ih =>
    intro p ks hp hl
    rw [bl_drop s p (by omega), kindsOf]
    refine ev_succ ?_
    simp only [haulierref09_From.l0, if_pos (show (p : Int) < (s.size : Int) by omega), if_pos (show (0 : Int) ≤ (p : Int) by omega)]
    refine Ev.bind (refkind_f _) ?_
    by_cases v : (kd (bt s (p : Int))).2 = true
    · simp only [if_pos v, if_pos (show ks.length < 17592186044416 by omega), w64 (x := (p : Int) + 1) (by omega) (by omega)]
      have h := ih (p + 1) (ks ++ [(kd (bt s (p : Int))).1]) (by omega) (by simp; omega)
      rw [show (((p + 1 : Nat) : Int)) = (p : Int) + 1 by omega] at h
      cases hk : kindsOf ((bl s).drop (p + 1)) with
      | none =>
        rw [hk] at h
        exact h
      | some ks' =>
        rw [hk] at h
        simp only [Option.map_some]
        simp only [List.append_assoc, List.singleton_append] at h
        exact h
    · simp only [if_neg v]
      exact Ev.now _
theorem rfrom_f (at_ : Int) (ha : -9223372036854775808 ≤ at_) (s : ByteArray) : Ev (fun k => haulierref09_From.f k at_ s) (fromV at_ s) := by
  unfold haulierref09_From.f fromV
  have hbad : Ev (fun k => haulierref09_From.j0 k at_ s true) (([] : List S50), (4 : Int)) := by
    refine ev_succ ?_
    simp only [haulierref09_From.j0, if_true]
    exact Ev.now _
  by_cases c1 : at_ < 0
  · simp only [if_pos c1]
    rw [if_pos (.inl c1)]
    exact hbad
  by_cases c2 : at_ > 40320
  · simp only [if_neg c1, if_pos c2]
    rw [if_pos (.inr (.inl c2))]
    exact hbad
  simp only [if_neg c1, if_neg c2, w64 (x := 40320 - at_) (by omega) (by omega)]
  by_cases c3 : (s.size : Int) > 40320 - at_
  · rw [if_pos (.inr (.inr c3)), decide_eq_true c3]
    exact hbad
  · rw [if_neg (by omega), decide_eq_false c3]
    refine ev_succ ?_
    simp only [haulierref09_From.j0, Bool.false_eq_true, if_false]
    have h := rfrom_l0 at_ (by omega) (by omega) s (by omega) s.size 0 [] (by omega) rfl
    rw [List.drop_zero] at h
    exact h

theorem light_l0 (l : List S50) (hl : l.length ≤ 100) (d : Nat) : ∀ (i : Nat) (acc : Int), i + d = l.length → ∃ r, Ev (fun k => haulierlaw09_light.l0 k acc l (l.length : Int) (i : Int)) r := by
  induction d with
  | zero =>
    intro i acc hi
    refine ⟨decide (acc ≤ 3000), ev_succ ?_⟩
    simp only [haulierlaw09_light.l0, if_neg (show ¬ (i : Int) < (l.length : Int) by omega)]
    exact Ev.now _
  | succ d ih =>
    intro i acc hi
    obtain ⟨r, h⟩ := ih (i + 1) (wrap64 (acc + wrap64 ((rd_T50 l (i : Int)).f2 - (rd_T50 l (i : Int)).f1))) (by omega)
    rw [show (((i + 1 : Nat) : Int)) = (i : Int) + 1 by omega] at h
    by_cases c1 : (rd_T50 l (i : Int)).f1 < 0
    · refine ⟨true, ev_succ ?_⟩
      simp only [haulierlaw09_light.l0, if_pos (show (i : Int) < (l.length : Int) by omega), if_pos (show (0 : Int) ≤ (i : Int) by omega), if_pos c1]
      exact Ev.now _
    by_cases c2 : (rd_T50 l (i : Int)).f2 > 40320
    · refine ⟨true, ev_succ ?_⟩
      simp only [haulierlaw09_light.l0, if_pos (show (i : Int) < (l.length : Int) by omega), if_pos (show (0 : Int) ≤ (i : Int) by omega), if_neg c1, if_pos c2]
      exact Ev.now _
    by_cases c3 : (rd_T50 l (i : Int)).f2 < 0
    · refine ⟨true, ev_succ ?_⟩
      simp only [haulierlaw09_light.l0, if_pos (show (i : Int) < (l.length : Int) by omega), if_pos (show (0 : Int) ≤ (i : Int) by omega), if_neg c1, if_neg c2, if_pos c3]
      exact Ev.now _
    by_cases c4 : (rd_T50 l (i : Int)).f1 > 40320
    · refine ⟨true, ev_succ ?_⟩
      simp only [haulierlaw09_light.l0, if_pos (show (i : Int) < (l.length : Int) by omega), if_pos (show (0 : Int) ≤ (i : Int) by omega), if_neg c1, if_neg c2, if_neg c3, if_pos c4]
      exact Ev.now _
    refine ⟨r, ev_succ ?_⟩
    simp only [haulierlaw09_light.l0, if_pos (show (i : Int) < (l.length : Int) by omega), if_pos (show (0 : Int) ≤ (i : Int) by omega), if_neg c1, if_neg c2, if_neg c3, if_neg c4, w64 (x := (i : Int) + 1) (by omega) (by omega)]
    exact h
theorem light_f (l : List S50) : ∃ r, Ev (fun k => haulierlaw09_light.f k l) r ∧ (r = true → l.length ≤ 100) := by
  unfold haulierlaw09_light.f
  by_cases c : (l.length : Int) > 100
  · refine ⟨false, ?_, by simp⟩
    simp only [if_pos c]
    exact Ev.now _
  · obtain ⟨r, h⟩ := light_l0 l (by omega) l.length 0 0 (by omega)
    refine ⟨r, ?_, fun _ => by omega⟩
    simp only [if_neg c]
    exact h
theorem fold_len (ks : List Int) : ∀ (out : List S50) (m : Int), (ofFold out m ks).length ≤ out.length + ks.length := by
  induction ks with
  | nil => intro out m; simp [ofFold]
  | cons k ks ih =>
    intro out m
    rw [ofFold]
    have h1 := ih (stepR out ⟨k, m, m + 1⟩) (m + 1)
    have h2 := stepR_length out ⟨k, m, m + 1⟩
    simp only [List.length_cons]
    omega
theorem kindsOf_len (xs : List Int) : ∀ ks, kindsOf xs = some ks → ks.length = xs.length := by
  induction xs with
  | nil => intro ks h; simp [kindsOf] at h; subst h; rfl
  | cons x t ih =>
    intro ks h
    rw [kindsOf] at h
    split at h
    · obtain ⟨l, hl, rfl⟩ := Option.map_eq_some_iff.1 h
      simp [ih l hl]
    · cases h
theorem fromV_len (at_ : Int) (s : ByteArray) : (fromV at_ s).1.length ≤ s.size := by
  unfold fromV
  split
  · simp
  · split
    · simp
    · rename_i ks hk
      have h1 := fold_len ks [] at_
      have h2 := kindsOf_len _ _ hk
      rw [bl_length] at h2
      simp only [List.length_nil] at h1 ⊢
      omega
theorem ViewOf : haulierlaw09_ViewOf.Pure := by
  intro l at_ s _ _ ha hs
  have ha' := ir_of ha
  unfold IR at ha'
  refine Ev.rounds ?_
  unfold haulierlaw09_ViewOf.f
  have hout : Ev (fun k => haulierlaw09_ViewOf.j0 k l at_ s true) true := by
    refine ev_succ ?_
    simp only [haulierlaw09_ViewOf.j0, if_true]
    exact Ev.bind alive_f (Ev.now _)
  obtain ⟨r, hr, hl⟩ := light_f l
  refine Ev.bind hr ?_
  cases r with
  | false =>
    simp only [Bool.false_eq_true, if_false]
    exact hout
  | true =>
    simp only [if_true]
    have hl' := hl rfl
    by_cases c : (s.size : Int) > 3000
    · rw [decide_eq_true c]
      exact hout
    · rw [decide_eq_false c]
      refine ev_succ ?_
      simp only [haulierlaw09_ViewOf.j0, Bool.false_eq_true, if_false]
      refine Ev.bind (vof_f l (Nat.le_trans hl' (by unfold maxLen; omega))) ?_
      refine Ev.bind (rof_f l (by omega)) ?_
      refine Ev.bind (from_f at_ ha'.1 s) ?_
      refine Ev.bind (rfrom_f at_ ha'.1 s) ?_
      simp only [if_true]
      refine Ev.bind (same_f _ _ (by have := fromV_len at_ s; omega)) ?_
      rw [sameS_refl]
      simp only [if_true]
      exact Ev.bind alive_f (Ev.now _)


end Go.Proofs.Ytegmofaiobdilaa.Pure
