/- How long a way through a chart is, and that it is the sum of its two parts wherever it is cut, is what the reference says: for every list of lists, every list of at most 60 places and every cut. -/
import Derived.Test.YtecncfnbeocneaaMChartLengthsx7
set_option linter.unusedVariables false
set_option linter.unusedSimpArgs false
namespace Go.Proofs.Ytecncfnbeocneaa.Pure
open Go.RowKit Go.Proofs.Ytecncfnbeocneaa.MChartLengths Go.Proofs.YtecncfnbeocneaaW.PrintWords Go.Proofs.YtecncfnbeocneaaW.PrintLast

theorem w64 {x : Int} (h0 : -9223372036854775808 ≤ x) (h1 : x ≤ 9223372036854775807) : wrap64 x = x := by
  unfold wrap64
  omega
theorem tmod_nn {a : Int} (h : 0 ≤ a) (b : Int) : Int.tmod a b = a % b := by
  rw [Int.tmod_eq_emod_of_nonneg h]
theorem tdiv_nn {a : Int} (h : 0 ≤ a) (b : Int) : Int.tdiv a b = a / b := by
  rw [Int.tdiv_eq_ediv_of_nonneg h]
theorem ev_succ {α : Type} {g : Nat → Option α} {r : α} (h : Ev (fun k => g (k + 1)) r) : Ev g r := by
  obtain ⟨K, h⟩ := h
  refine ⟨K + 1, fun n hn => ?_⟩
  obtain ⟨m, rfl⟩ : ∃ m, n = m + 1 := ⟨n - 1, by omega⟩
  exact h m (by omega)

def IR (x : Int) : Prop := -9223372036854775808 ≤ x ∧ x ≤ 9223372036854775807
theorem ir_of {x : Int} (h : (Lit.int .i64 x).wf = true) : IR x := by simpa [IR, Lit.wf, IntKind.min, IntKind.max, IntKind.signed, IntKind.bits] using h
theorem rd_drop (xs : List Int) (i : Nat) (h : i < xs.length) : xs.drop i = rd xs (i : Int) :: xs.drop (i + 1) := by
  rw [List.drop_eq_getElem_cons h]
  simp [rd, h]
theorem rd_mem (xs : List Int) (i : Nat) (h : i < xs.length) : rd xs (i : Int) ∈ xs := by
  simp [rd, h]

theorem rdL_drop (xs : List (List Int)) (i : Nat) (h : i < xs.length) : xs.drop i = rd_L1 xs (i : Int) :: xs.drop (i + 1) := by
  rw [List.drop_eq_getElem_cons h]
  simp [rd_L1, h]
theorem rdL_mem (xs : List (List Int)) (i : Nat) (h : i < xs.length) : rd_L1 xs (i : Int) ∈ xs := by simp [rd_L1, h]
def lightB (m : Int) (l : List (List Int)) : Bool := l.all fun x => decide ((x.length : Int) ≤ m)
theorem light_l0 (m : Int) (l : List (List Int)) (hl : l.length ≤ maxLen) (d : Nat) : ∀ i : Nat, i + d = l.length → Ev (fun k => haulierlaw27_Light.l0 k m l (l.length : Int) (i : Int)) (lightB m (l.drop i)) := by
  unfold maxLen at hl
  induction d with
  | zero =>
    intro i hi
    rw [List.drop_of_length_le (by omega)]
    refine ev_succ ?_
    simp only [haulierlaw27_Light.l0, if_neg (show ¬ (i : Int) < (l.length : Int) by omega)]
    exact Ev.now _
  | succ d ih =>
    intro i hi
    rw [rdL_drop l i (by omega)]
    have h := ih (i + 1) (by omega)
    rw [show (((i + 1 : Nat) : Int)) = (i : Int) + 1 by omega] at h
    refine ev_succ ?_
    simp only [haulierlaw27_Light.l0, lightB, List.all_cons, if_pos (show (i : Int) < (l.length : Int) by omega), if_pos (show (0 : Int) ≤ (i : Int) by omega), w64 (x := (i : Int) + 1) (by omega) (by omega)]
    by_cases h0 : ((rd_L1 l (i : Int)).length : Int) > m
    · simp only [if_pos h0]
      rw [decide_eq_false (by omega), Bool.false_and]
      exact Ev.now _
    · simp only [if_neg h0]
      rw [decide_eq_true (by omega), Bool.true_and]
      exact h
def lightS (l : List (List Int)) (m : Int) : Bool := decide ((l.length : Int) ≤ m) && lightB m l
theorem light_f (l : List (List Int)) (hl : l.length ≤ maxLen) (m : Int) : Ev (fun k => haulierlaw27_Light.f k l m) (lightS l m) := by
  unfold haulierlaw27_Light.f lightS
  by_cases h : (l.length : Int) > m
  · simp only [if_pos h]
    rw [decide_eq_false (by omega), Bool.false_and]
    exact Ev.now _
  · simp only [if_neg h]
    rw [decide_eq_true (by omega), Bool.true_and]
    exact light_l0 m l hl l.length 0 (by omega)
def rowS (r : Int) : Int → List Int → Int × Int
  | _, [] => (0, 0)
  | c, m :: l => if m < 0 ∨ m > 10080 then (c, 4) else if c = r ∧ m ≠ 0 then (c, 1) else rowS r (c + 1) l
def chkRows (n : Nat) : Int → List (List Int) → Int × Int × Int
  | _, [] => (0, 0, 0)
  | r, l :: ls => if l.length ≠ n then (r, 0, 18) else if (rowS r 0 l).2 ≠ 0 then (r, (rowS r 0 l).1, (rowS r 0 l).2) else chkRows n (r + 1) ls
def chkW (w : List (List Int)) : Int × Int × Int := if w.length = 0 then (0, 0, 13) else if w.length > 200 then (0, 0, 12) else chkRows w.length 0 w
theorem row_l0 (r : Int) (l : List Int) (hl : l.length ≤ 1000) (d : Nat) : ∀ i : Nat, i + d = l.length → Ev (fun k => chart_row.l0 k r l (l.length : Int) (i : Int)) (rowS r i (l.drop i)) := by
  induction d with
  | zero =>
    intro i hi
    rw [List.drop_of_length_le (by omega)]
    refine ev_succ ?_
    simp only [chart_row.l0, if_neg (show ¬ (i : Int) < (l.length : Int) by omega)]
    exact Ev.now _
  | succ d ih =>
    intro i hi
    rw [rd_drop l i (by omega)]
    have h := ih (i + 1) (by omega)
    rw [show (((i + 1 : Nat) : Int)) = (i : Int) + 1 by omega] at h
    have hj : ∀ z : Bool, (z = true ↔ rd l (i : Int) < 0 ∨ rd l (i : Int) > 10080) → Ev (fun k => chart_row.j1 k r (i : Int) (rd l (i : Int)) l (l.length : Int) (i : Int) z) (rowS r i (rd l (i : Int) :: l.drop (i + 1))) := by
      intro z hz
      refine ev_succ ?_
      simp only [chart_row.j1, rowS, w64 (x := (i : Int) + 1) (by omega) (by omega)]
      by_cases hzt : z = true
      · simp only [if_pos hzt, if_pos (hz.1 hzt)]
        exact Ev.now _
      · have hz' : ¬ (rd l (i : Int) < 0 ∨ rd l (i : Int) > 10080) := fun h => hzt (hz.2 h)
        simp only [if_neg hzt, if_neg hz']
        by_cases h1 : (i : Int) = r
        · by_cases h2 : rd l (i : Int) = 0
          · simp only [if_pos h1, if_pos h2, if_neg (show ¬ ((i : Int) = r ∧ rd l (i : Int) ≠ 0) from fun h => h.2 h2)]
            exact h
          · simp only [if_pos h1, if_neg h2, if_pos (show (i : Int) = r ∧ rd l (i : Int) ≠ 0 from ⟨h1, h2⟩)]
            exact Ev.now _
        · simp only [if_neg h1, if_neg (show ¬ ((i : Int) = r ∧ rd l (i : Int) ≠ 0) from fun h => h1 h.1)]
          exact h
    refine ev_succ ?_
    simp only [chart_row.l0, if_pos (show (i : Int) < (l.length : Int) by omega), if_pos (show (0 : Int) ≤ (i : Int) by omega)]
    by_cases h0 : rd l (i : Int) < 0
    · simp only [if_pos h0]
      exact hj _ (by simp [h0])
    · simp only [if_neg h0]
      exact hj _ (by simp; omega)
theorem row_f (l : List Int) (r : Int) (n : Nat) (hn : n ≤ 1000) : Ev (fun k => chart_row.f k l r (n : Int)) (if l.length ≠ n then (0, 18) else rowS r 0 l) := by
  unfold chart_row.f
  by_cases h : l.length = n
  · simp only [if_pos (show (l.length : Int) = (n : Int) by omega), h, ne_eq, not_true, if_false]
    have := row_l0 r l (by omega) l.length 0 (by omega)
    rw [h] at this
    simpa using this
  · simp only [if_neg (show ¬ (l.length : Int) = (n : Int) by omega), ne_eq, h, not_false_eq_true, if_true]
    exact Ev.now _
theorem check_l0 (w : List (List Int)) (hw : w.length ≤ 200) (d : Nat) : ∀ i : Nat, i + d = w.length → Ev (fun k => chart_Check.l0 k w w (w.length : Int) (i : Int)) (chkRows w.length i (w.drop i)) := by
  induction d with
  | zero =>
    intro i hi
    rw [List.drop_of_length_le (by omega)]
    refine ev_succ ?_
    simp only [chart_Check.l0, if_neg (show ¬ (i : Int) < (w.length : Int) by omega)]
    exact Ev.now _
  | succ d ih =>
    intro i hi
    rw [rdL_drop w i (by omega)]
    have h := ih (i + 1) (by omega)
    rw [show (((i + 1 : Nat) : Int)) = (i : Int) + 1 by omega] at h
    refine ev_succ ?_
    simp only [chart_Check.l0, chkRows, if_pos (show (i : Int) < (w.length : Int) by omega), if_pos (show (0 : Int) ≤ (i : Int) by omega), w64 (x := (i : Int) + 1) (by omega) (by omega)]
    refine Ev.bind (row_f _ _ _ (by omega)) ?_
    by_cases h0 : (rd_L1 w (i : Int)).length ≠ w.length
    · simp only [if_pos h0, if_neg (show ¬ (18 : Int) = 0 by omega)]
      exact Ev.now _
    · simp only [if_neg h0]
      by_cases h1 : (rowS (i : Int) 0 (rd_L1 w (i : Int))).2 = 0
      · simp only [if_pos h1, ne_eq, h1, not_true, if_false]
        exact h
      · simp only [if_neg h1, ne_eq, h1, not_false_eq_true, if_true]
        exact Ev.now _
theorem check_f (w : List (List Int)) : Ev (fun k => chart_Check.f k w) (chkW w) := by
  unfold chart_Check.f chkW
  by_cases h : w.length = 0
  · simp only [if_pos (show (w.length : Int) = 0 by omega), if_pos h]
    exact Ev.now _
  · simp only [if_neg (show ¬ (w.length : Int) = 0 by omega), if_neg h]
    by_cases h2 : w.length > 200
    · simp only [if_pos (show (w.length : Int) > 200 by omega), if_pos h2]
      exact Ev.now _
    · simp only [if_neg (show ¬ (w.length : Int) > 200 by omega), if_neg h2]
      exact check_l0 w (by omega) w.length 0 (by omega)
def W (w : List (List Int)) (a b : Nat) : Int := rd (rd_L1 w (a : Int)) (b : Int)
structure VW (w : List (List Int)) : Prop where
  pos : 0 < w.length
  le : w.length ≤ 200
  rows : ∀ a, a < w.length → (rd_L1 w (a : Int)).length = w.length
  lo : ∀ a b, a < w.length → b < w.length → 0 ≤ W w a b
  hi : ∀ a b, a < w.length → b < w.length → W w a b ≤ 10080
  diag : ∀ a, a < w.length → W w a a = 0
theorem rowS_ok (r : Int) (l : List Int) : ∀ c : Int, (rowS r c l).2 = 0 ↔ ∀ i : Nat, i < l.length → 0 ≤ rd l (i : Int) ∧ rd l (i : Int) ≤ 10080 ∧ (c + i = r → rd l (i : Int) = 0) := by
  induction l with
  | nil => intro c; simp [rowS]
  | cons m l ih =>
    intro c
    simp only [rowS]
    have hs : (∀ i : Nat, i < (m :: l).length → 0 ≤ rd (m :: l) (i : Int) ∧ rd (m :: l) (i : Int) ≤ 10080 ∧ (c + i = r → rd (m :: l) (i : Int) = 0)) ↔ (0 ≤ m ∧ m ≤ 10080 ∧ (c = r → m = 0)) ∧ ∀ i : Nat, i < l.length → 0 ≤ rd l (i : Int) ∧ rd l (i : Int) ≤ 10080 ∧ (c + 1 + i = r → rd l (i : Int) = 0) := by
      constructor
      · intro h
        refine ⟨?_, fun i hi => ?_⟩
        · have := h 0 (by simp)
          simpa [rd] using this
        · have := h (i + 1) (by simp; omega)
          simp only [rd, Int.toNat_natCast, List.getD_cons_succ] at this ⊢
          exact ⟨this.1, this.2.1, fun h => this.2.2 (by omega)⟩
      · rintro ⟨h0, h⟩ i hi
        cases i with
        | zero => simpa [rd] using h0
        | succ i =>
          have := h i (by simpa using hi)
          simp only [rd, Int.toNat_natCast, List.getD_cons_succ] at this ⊢
          exact ⟨this.1, this.2.1, fun h => this.2.2 (by omega)⟩
    rw [hs, ← ih]
    by_cases h1 : m < 0 ∨ m > 10080
    · rw [if_pos h1]
      simp
      omega
    · rw [if_neg h1]
      by_cases h2 : c = r ∧ m ≠ 0
      · rw [if_pos h2]
        simp
        intro _ _ h
        exact absurd (h h2.1) h2.2
      · rw [if_neg h2]
        constructor
        · intro h
          refine ⟨⟨by omega, by omega, fun h3 => ?_⟩, h⟩
          by_cases h4 : m = 0
          · exact h4
          · exact absurd ⟨h3, h4⟩ h2
        · exact fun h => h.2
theorem chkRows_ok (n : Nat) (ls : List (List Int)) : ∀ r : Int, (chkRows n r ls).2.2 = 0 ↔ ∀ a : Nat, a < ls.length → (rd_L1 ls (a : Int)).length = n ∧ (rowS (r + a) 0 (rd_L1 ls (a : Int))).2 = 0 := by
  induction ls with
  | nil => intro r; simp [chkRows]
  | cons l ls ih =>
    intro r
    simp only [chkRows]
    have hs : (∀ a : Nat, a < (l :: ls).length → (rd_L1 (l :: ls) (a : Int)).length = n ∧ (rowS (r + a) 0 (rd_L1 (l :: ls) (a : Int))).2 = 0) ↔ (l.length = n ∧ (rowS r 0 l).2 = 0) ∧ ∀ a : Nat, a < ls.length → (rd_L1 ls (a : Int)).length = n ∧ (rowS (r + 1 + a) 0 (rd_L1 ls (a : Int))).2 = 0 := by
      constructor
      · intro h
        refine ⟨by simpa [rd_L1] using h 0 (by simp), fun a ha => ?_⟩
        have := h (a + 1) (by simp; omega)
        simp only [rd_L1, Int.toNat_natCast, List.getD_cons_succ] at this ⊢
        rw [show r + 1 + (a : Int) = r + ((a + 1 : Nat) : Int) by omega]
        exact this
      · rintro ⟨h0, h⟩ a ha
        cases a with
        | zero => simpa [rd_L1] using h0
        | succ a =>
          have := h a (by simpa using ha)
          simp only [rd_L1, Int.toNat_natCast, List.getD_cons_succ] at this ⊢
          rw [show r + ((a + 1 : Nat) : Int) = r + 1 + (a : Int) by omega]
          exact this
    rw [hs, ← ih]
    by_cases h1 : l.length = n
    · rw [if_neg (by simp [h1])]
      by_cases h2 : (rowS r 0 l).2 = 0
      · rw [if_neg (by simp [h2])]
        simp [h1, h2]
      · rw [if_pos h2]
        simp [h2]
    · rw [if_pos h1]
      simp [h1]
theorem chkW_ok (w : List (List Int)) : (chkW w).2.2 = 0 ↔ VW w := by
  unfold chkW
  by_cases h : w.length = 0
  · rw [if_pos h]
    simp
    intro hv
    have := hv.pos
    omega
  · rw [if_neg h]
    by_cases h2 : w.length > 200
    · rw [if_pos h2]
      simp
      intro hv
      have := hv.le
      omega
    · rw [if_neg h2, chkRows_ok]
      constructor
      · intro h3
        have h4 : ∀ a b : Nat, a < w.length → b < w.length → 0 ≤ W w a b ∧ W w a b ≤ 10080 ∧ (a = b → W w a b = 0) := by
          intro a b ha hb
          obtain ⟨h5, h6⟩ := h3 a ha
          have := (rowS_ok _ _ _).1 h6 b (by omega)
          exact ⟨this.1, this.2.1, fun e => this.2.2 (by omega)⟩
        exact ⟨by omega, by omega, fun a ha => (h3 a ha).1, fun a b ha hb => (h4 a b ha hb).1, fun a b ha hb => (h4 a b ha hb).2.1, fun a ha => (h4 a a ha ha).2.2 rfl⟩
      · intro hv a ha
        refine ⟨hv.rows a ha, (rowS_ok _ _ _).2 fun i hi => ?_⟩
        rw [hv.rows a ha] at hi
        refine ⟨hv.lo a i ha hi, hv.hi a i ha hi, fun e => ?_⟩
        have : i = a := by omega
        subst this
        exact hv.diag i ha
def plS (w : List (List Int)) (l : List Int) : Int := if (chkW w).2.2 = 0 then (if ∀ a ∈ l, 0 ≤ a ∧ a < w.length then 0 else 10) else (chkW w).2.2
theorem places_l0 (w : List (List Int)) (l : List Int) (hl : l.length ≤ 1000000) (d : Nat) : ∀ i : Nat, i + d = l.length → Ev (fun k => chart_places.l0 k w l (l.length : Int) (i : Int)) (if ∀ a ∈ l.drop i, 0 ≤ a ∧ a < w.length then 0 else 10) := by
  induction d with
  | zero =>
    intro i hi
    rw [List.drop_of_length_le (by omega)]
    refine ev_succ ?_
    simp only [chart_places.l0, if_neg (show ¬ (i : Int) < (l.length : Int) by omega)]
    rw [if_pos (by simp)]
    exact Ev.now _
  | succ d ih =>
    intro i hi
    rw [rd_drop l i (by omega)]
    have h := ih (i + 1) (by omega)
    rw [show (((i + 1 : Nat) : Int)) = (i : Int) + 1 by omega] at h
    refine ev_succ ?_
    simp only [chart_places.l0, if_pos (show (i : Int) < (l.length : Int) by omega), if_pos (show (0 : Int) ≤ (i : Int) by omega), w64 (x := (i : Int) + 1) (by omega) (by omega)]
    by_cases h0 : rd l (i : Int) < 0
    · simp only [if_pos h0]
      rw [if_neg (by intro h2; have := h2 _ List.mem_cons_self; omega)]
      exact Ev.now _
    · by_cases h1 : rd l (i : Int) ≥ (w.length : Int)
      · simp only [if_neg h0, if_pos h1]
        rw [if_neg (by intro h2; have := h2 _ List.mem_cons_self; omega)]
        exact Ev.now _
      · simp only [if_neg h0, if_neg h1]
        by_cases h2 : ∀ a ∈ l.drop (i + 1), 0 ≤ a ∧ a < (w.length : Int)
        · rw [if_pos h2] at h
          rw [if_pos (by rw [List.forall_mem_cons]; exact ⟨by omega, h2⟩)]
          exact h
        · rw [if_neg h2] at h
          rw [if_neg (by rw [List.forall_mem_cons]; exact fun h3 => h2 h3.2)]
          exact h
theorem places_f (w : List (List Int)) (l : List Int) (hl : l.length ≤ 1000000) : Ev (fun k => chart_places.f k w l) (plS w l) := by
  unfold chart_places.f plS
  refine Ev.bind (check_f w) ?_
  by_cases h : (chkW w).2.2 = 0
  · simp only [if_pos h]
    exact places_l0 w l hl l.length 0 (by omega)
  · simp only [if_neg h]
    exact Ev.now _
theorem chalive_f : Ev (fun k => haulierlaw27_alive.f k) true := by
  refine Ev.of (k := 60) haulierlaw27_alive.mono ?_
  decide +kernel

theorem refchk_l1 (w : List (List Int)) (hw : w.length ≤ 200) (r : Nat) (hr : r < w.length) (hl : (rd_L1 w (r : Int)).length = w.length) (R : Int × Int × Int) (hR : Ev (fun k => haulierref27_Check.l0 k w ((r : Int) + 1)) R) (d : Nat) : ∀ i : Nat, i + d = w.length → Ev (fun k => haulierref27_Check.l1 k w (r : Int) (i : Int)) (if (rowS (r : Int) i ((rd_L1 w (r : Int)).drop i)).2 ≠ 0 then ((r : Int), (rowS (r : Int) i ((rd_L1 w (r : Int)).drop i)).1, (rowS (r : Int) i ((rd_L1 w (r : Int)).drop i)).2) else R) := by
  induction d with
  | zero =>
    intro i hi
    rw [List.drop_of_length_le (by omega)]
    refine ev_succ ?_
    simp only [haulierref27_Check.l1, if_neg (show ¬ (i : Int) < (w.length : Int) by omega), w64 (x := (r : Int) + 1) (by omega) (by omega)]
    simpa [rowS] using hR
  | succ d ih =>
    intro i hi
    rw [rd_drop (rd_L1 w (r : Int)) i (by omega)]
    have h := ih (i + 1) (by omega)
    rw [show (((i + 1 : Nat) : Int)) = (i : Int) + 1 by omega] at h
    have hj : ∀ z : Bool, (z = true ↔ rd (rd_L1 w (r : Int)) (i : Int) < 0 ∨ rd (rd_L1 w (r : Int)) (i : Int) > 10080) → Ev (fun k => haulierref27_Check.j2 k w (r : Int) (i : Int) z) (if (rowS (r : Int) i (rd (rd_L1 w (r : Int)) (i : Int) :: (rd_L1 w (r : Int)).drop (i + 1))).2 ≠ 0 then ((r : Int), (rowS (r : Int) i (rd (rd_L1 w (r : Int)) (i : Int) :: (rd_L1 w (r : Int)).drop (i + 1))).1, (rowS (r : Int) i (rd (rd_L1 w (r : Int)) (i : Int) :: (rd_L1 w (r : Int)).drop (i + 1))).2) else R) := by
      intro z hz
      refine ev_succ ?_
      simp only [haulierref27_Check.j2, rowS, w64 (x := (i : Int) + 1) (by omega) (by omega), if_pos (show (0 : Int) ≤ (i : Int) by omega), if_pos (show (0 : Int) ≤ (r : Int) by omega), if_pos (show (r : Int) < (w.length : Int) by omega), if_pos (show (i : Int) < ((rd_L1 w (r : Int)).length : Int) by omega)]
      by_cases hzt : z = true
      · simp only [if_pos hzt, if_pos (hz.1 hzt)]
        exact Ev.now _
      · have hz' : ¬ (rd (rd_L1 w (r : Int)) (i : Int) < 0 ∨ rd (rd_L1 w (r : Int)) (i : Int) > 10080) := fun h => hzt (hz.2 h)
        simp only [if_neg hzt, if_neg hz']
        by_cases h1 : (r : Int) = i
        · by_cases h2 : rd (rd_L1 w (r : Int)) (i : Int) = 0
          · simp only [if_pos h1, if_pos h2, if_neg (show ¬ ((i : Int) = r ∧ rd (rd_L1 w (r : Int)) (i : Int) ≠ 0) from fun h => h.2 h2)]
            exact h
          · simp only [if_pos h1, if_neg h2, if_pos (show (i : Int) = r ∧ rd (rd_L1 w (r : Int)) (i : Int) ≠ 0 from ⟨h1.symm, h2⟩)]
            exact Ev.now _
        · simp only [if_neg h1, if_neg (show ¬ ((i : Int) = r ∧ rd (rd_L1 w (r : Int)) (i : Int) ≠ 0) from fun h => h1 h.1.symm)]
          exact h
    refine ev_succ ?_
    simp only [haulierref27_Check.l1, if_pos (show (i : Int) < (w.length : Int) by omega), if_pos (show (0 : Int) ≤ (i : Int) by omega), if_pos (show (0 : Int) ≤ (r : Int) by omega), if_pos (show (r : Int) < (w.length : Int) by omega), if_pos (show (i : Int) < ((rd_L1 w (r : Int)).length : Int) by omega)]
    by_cases h0 : rd (rd_L1 w (r : Int)) (i : Int) < 0
    · simp only [if_pos h0]
      exact hj _ (by simp [h0])
    · simp only [if_neg h0]
      exact hj _ (by simp; omega)
theorem refchk_l0 (w : List (List Int)) (hw : w.length ≤ 200) (d : Nat) : ∀ i : Nat, i + d = w.length → Ev (fun k => haulierref27_Check.l0 k w (i : Int)) (chkRows w.length i (w.drop i)) := by
  induction d with
  | zero =>
    intro i hi
    rw [List.drop_of_length_le (by omega)]
    refine ev_succ ?_
    simp only [haulierref27_Check.l0, if_neg (show ¬ (i : Int) < (w.length : Int) by omega)]
    exact Ev.now _
  | succ d ih =>
    intro i hi
    rw [rdL_drop w i (by omega)]
    have h := ih (i + 1) (by omega)
    rw [show (((i + 1 : Nat) : Int)) = (i : Int) + 1 by omega] at h
    refine ev_succ ?_
    simp only [haulierref27_Check.l0, chkRows, if_pos (show (i : Int) < (w.length : Int) by omega), if_pos (show (0 : Int) ≤ (i : Int) by omega)]
    by_cases h0 : (rd_L1 w (i : Int)).length = w.length
    · simp only [if_pos (show ((rd_L1 w (i : Int)).length : Int) = (w.length : Int) by omega), if_neg (show ¬ (rd_L1 w (i : Int)).length ≠ w.length by omega)]
      have := refchk_l1 w hw i (by omega) h0 _ h w.length 0 (by omega)
      simpa using this
    · simp only [if_neg (show ¬ ((rd_L1 w (i : Int)).length : Int) = (w.length : Int) by omega), if_pos (show (rd_L1 w (i : Int)).length ≠ w.length by omega)]
      exact Ev.now _
theorem refchk_f (w : List (List Int)) : Ev (fun k => haulierref27_Check.f k w) (chkW w) := by
  unfold haulierref27_Check.f chkW
  by_cases h : w.length = 0
  · simp only [if_pos (show (w.length : Int) = 0 by omega), if_pos h]
    exact Ev.now _
  · simp only [if_neg (show ¬ (w.length : Int) = 0 by omega), if_neg h]
    by_cases h2 : w.length > 200
    · simp only [if_pos (show (w.length : Int) > 200 by omega), if_pos h2]
      exact Ev.now _
    · simp only [if_neg (show ¬ (w.length : Int) > 200 by omega), if_neg h2]
      exact refchk_l0 w (by omega) w.length 0 (by omega)
theorem W_hi (w : List (List Int)) (hv : VW w) (a b : Nat) (ha : a < w.length) (hb : b < w.length) : 0 ≤ rd (rd_L1 w (a : Int)) (b : Int) ∧ rd (rd_L1 w (a : Int)) (b : Int) ≤ 10080 := ⟨hv.lo a b ha hb, hv.hi a b ha hb⟩

def inL (w : List (List Int)) (l : List Int) : Prop := ∀ a ∈ l, 0 ≤ a ∧ a < (w.length : Int)
def sumL (w : List (List Int)) : List Int → Int
  | [] => 0
  | [_] => 0
  | a :: b :: t => rd (rd_L1 w a) b + sumL w (b :: t)
theorem sumL_cut (w : List (List Int)) (l : List Int) : ∀ c : Nat, c < l.length → sumL w (l.take (c + 1)) + sumL w (l.drop c) = sumL w l := by
  induction l with
  | nil => intro c hc; simp at hc
  | cons a t ih =>
    intro c hc
    cases c with
    | zero => simp [sumL]
    | succ c =>
      cases t with
      | nil => simp at hc
      | cons b t =>
        have := ih c (by simpa using hc)
        simp only [List.take_succ_cons, List.drop_succ_cons, sumL] at this ⊢
        omega
theorem rdW (w : List (List Int)) (hv : VW w) (a b : Int) (ha : 0 ≤ a ∧ a < w.length) (hb : 0 ≤ b ∧ b < w.length) : 0 ≤ rd (rd_L1 w a) b ∧ rd (rd_L1 w a) b ≤ 10080 ∧ (rd_L1 w a).length = w.length := by
  have h1 := W_hi w hv a.toNat b.toNat (by omega) (by omega)
  have h2 := hv.rows a.toNat (by omega)
  rw [Int.toNat_of_nonneg ha.1] at h1 h2
  rw [Int.toNat_of_nonneg hb.1] at h1
  exact ⟨h1.1, h1.2, h2⟩
theorem sumL_pos (w : List (List Int)) (hv : VW w) (l : List Int) (h : inL w l) : 0 ≤ sumL w l ∧ sumL w l ≤ 10080 * l.length := by
  induction l with
  | nil => simp [sumL]
  | cons a t ih =>
    cases t with
    | nil => simp [sumL]
    | cons b t =>
      have h1 := ih (fun x hx => h x (List.mem_cons_of_mem _ hx))
      have h2 := rdW w hv a b (h a (by simp)) (h b (by simp))
      simp only [sumL, List.length_cons] at h1 ⊢
      omega
open Classical in
noncomputable def lenS (w : List (List Int)) (l : List Int) : Int × Int := if (chkW w).2.2 = 0 then (if inL w l then (sumL w l, 0) else (0, 10)) else (0, (chkW w).2.2)
theorem drop2 (w : List (List Int)) (l : List Int) (i : Nat) (h : i + 1 < l.length) : sumL w (l.drop i) = rd (rd_L1 w (rd l (i : Int))) (rd l ((i : Int) + 1)) + sumL w (l.drop (i + 1)) := by
  have e : ((i : Int) + 1) = ((i + 1 : Nat) : Int) := by omega
  rw [rd_drop l i (by omega), rd_drop l (i + 1) h, e]
  rfl
theorem drop1 (w : List (List Int)) (l : List Int) (i : Nat) (h : l.length ≤ i + 1) : sumL w (l.drop i) = 0 := by
  by_cases h2 : i < l.length
  · rw [rd_drop l i h2, List.drop_of_length_le (by omega)]
    rfl
  · rw [List.drop_of_length_le (by omega)]
    rfl
theorem len_l0 (w : List (List Int)) (hv : VW w) (l : List Int) (hl : l.length ≤ 100) (hin : inL w l) (d : Nat) : ∀ (i : Nat) (s : Int), l.length ≤ i + 1 + d → 0 ≤ s → s ≤ 10080 * i → i ≤ 100 → Ev (fun k => chart_Length.l0 k w l s ((i : Int) + 1)) (s + sumL w (l.drop i), 0) := by
  induction d with
  | zero =>
    intro i s hi h0 h1 h3
    rw [drop1 w l i (by omega)]
    refine ev_succ ?_
    simp only [chart_Length.l0, if_neg (show ¬ (i : Int) + 1 < (l.length : Int) by omega), Int.add_zero]
    exact Ev.now _
  | succ d ih =>
    intro i s hi h0 h1 h3
    by_cases h2 : i + 1 < l.length
    · have ea := hin (rd l (i : Int)) (rd_mem l i (by omega))
      have eb := hin (rd l ((i + 1 : Nat) : Int)) (rd_mem l (i + 1) (by omega))
      rw [show (((i + 1 : Nat) : Int)) = (i : Int) + 1 by omega] at eb
      have e := rdW w hv _ _ ea eb
      have h := ih (i + 1) (s + rd (rd_L1 w (rd l (i : Int))) (rd l ((i : Int) + 1))) (by omega) (by omega) (by omega) (by omega)
      rw [show (((i + 1 : Nat) : Int)) = (i : Int) + 1 by omega, show s + rd (rd_L1 w (rd l (i : Int))) (rd l ((i : Int) + 1)) + sumL w (l.drop (i + 1)) = s + sumL w (l.drop i) by rw [drop2 w l i h2]; omega] at h
      refine ev_succ ?_
      simp only [chart_Length.l0, if_pos (show (i : Int) + 1 < (l.length : Int) by omega), Int.add_sub_cancel, w64 (x := (i : Int)) (by omega) (by omega), if_pos (show (0 : Int) ≤ (i : Int) by omega), if_pos (show (i : Int) < (l.length : Int) by omega), if_pos (show (0 : Int) ≤ (i : Int) + 1 by omega), if_pos ea.1, if_pos ea.2, if_pos eb.1, e.2.2, if_pos eb.2, w64 (x := s + rd (rd_L1 w (rd l (i : Int))) (rd l ((i : Int) + 1))) (by omega) (by omega), w64 (x := (i : Int) + 1 + 1) (by omega) (by omega)]
      exact h
    · rw [drop1 w l i (by omega)]
      refine ev_succ ?_
      simp only [chart_Length.l0, if_neg (show ¬ (i : Int) + 1 < (l.length : Int) by omega), Int.add_zero]
      exact Ev.now _
theorem plS_inL (w : List (List Int)) (l : List Int) (h : (chkW w).2.2 = 0) (hi : inL w l) : plS w l = 0 := by
  unfold plS
  rw [if_pos h, if_pos (show ∀ a ∈ l, 0 ≤ a ∧ a < (w.length : Int) from hi)]
theorem len_f (w : List (List Int)) (l : List Int) (hl : l.length ≤ 100) : Ev (fun k => chart_Length.f k w l) (lenS w l) := by
  unfold chart_Length.f lenS
  refine Ev.bind (places_f w l (by omega)) ?_
  by_cases h : (chkW w).2.2 = 0
  · have hv := (chkW_ok w).1 h
    by_cases h2 : inL w l
    · simp only [plS_inL w l h h2, if_pos h, if_pos h2, if_true]
      have := len_l0 w hv l hl h2 l.length 0 0 (by omega) (by omega) (by omega) (by omega)
      simpa using this
    · unfold plS
      simp only [if_pos h, if_neg h2, if_neg (show ¬ ∀ a ∈ l, 0 ≤ a ∧ a < (w.length : Int) from h2), if_neg (show ¬ (10 : Int) = 0 by omega)]
      exact Ev.now _
  · unfold plS
    simp only [if_neg h]
    exact Ev.now _
theorem place_f (w : List (List Int)) (a : Int) : haulierref27_Place.f w a = some (decide (0 ≤ a ∧ a < w.length)) := by
  unfold haulierref27_Place.f
  by_cases h : a ≥ 0
  · rw [if_pos h]
    simp [h]
  · rw [if_neg h]
    simp
    omega
open Classical in
theorem rlen_l0 (w : List (List Int)) (hv : VW w) (l : List Int) (hl : l.length ≤ 100) (d : Nat) : ∀ (i : Nat) (s : Int), i + d = l.length → inL w (l.take i) → 0 ≤ s → s ≤ 10080 * i → Ev (fun k => haulierref27_Length.l0 k w l s (i : Int)) (if inL w (l.drop i) then (s + sumL w (l.drop (i - 1)), 0) else (0, 10)) := by
  induction d with
  | zero =>
    intro i s hi ht h0 h1
    rw [drop1 w l (i - 1) (by omega), List.drop_of_length_le (by omega), if_pos (by simp [inL])]
    refine ev_succ ?_
    simp only [haulierref27_Length.l0, if_neg (show ¬ (i : Int) < (l.length : Int) by omega), Int.add_zero]
    exact Ev.now _
  | succ d ih =>
    intro i s hi ht h0 h1
    have ecd : inL w (l.drop i) ↔ (0 ≤ rd l (i : Int) ∧ rd l (i : Int) < (w.length : Int)) ∧ inL w (l.drop (i + 1)) := by
      rw [rd_drop l i (by omega)]
      simp only [inL, List.forall_mem_cons]
    have ect : (0 ≤ rd l (i : Int) ∧ rd l (i : Int) < (w.length : Int)) → inL w (l.take (i + 1)) := by
      intro h x hx
      rw [List.take_add_one, List.mem_append] at hx
      rcases hx with hx | hx
      · exact ht x hx
      · rw [List.getElem?_eq_getElem (show i < l.length by omega)] at hx
        have this : rd l (i : Int) = l[i]'(by omega) := by simp [rd, show i < l.length by omega]
        have hx2 : x = l[i]'(by omega) := by simpa using hx
        rw [hx2, ← this]
        exact h
    refine ev_succ ?_
    simp only [haulierref27_Length.l0, if_pos (show (i : Int) < (l.length : Int) by omega), if_pos (show (0 : Int) ≤ (i : Int) by omega), place_f, Option.bind_some]
    by_cases hp : 0 ≤ rd l (i : Int) ∧ rd l (i : Int) < (w.length : Int)
    · simp only [decide_eq_true hp, if_true]
      by_cases hi0 : i = 0
      · subst hi0
        have h := ih 1 s (by omega) (by simpa using ect hp) h0 (by omega)
        simp only [Nat.sub_self, Nat.zero_sub] at h ⊢
        simp only [if_neg (show ¬ ((0 : Nat) : Int) > 0 by omega), show wrap64 (((0 : Nat) : Int) + 1) = 1 from (w64 (x := ((0 : Nat) : Int) + 1) (by omega) (by omega)).trans (by omega)]
        rw [show (((1 : Nat) : Int)) = 1 by rfl] at h
        by_cases h4 : inL w (l.drop 1)
        · rw [if_pos h4] at h
          rw [if_pos (ecd.2 ⟨hp, h4⟩)]
          exact h
        · rw [if_neg h4] at h
          rw [if_neg (fun h5 => h4 (ecd.1 h5).2)]
          exact h
      · obtain ⟨j, rfl⟩ : ∃ j, i = j + 1 := ⟨i - 1, by omega⟩
        have ea : 0 ≤ rd l (j : Int) ∧ rd l (j : Int) < (w.length : Int) := by
          refine ht _ ?_
          have : rd l (j : Int) = (l.take (j + 1))[j]'(by simp; omega) := by simp [rd, show j < l.length by omega]
          rw [this]
          exact List.getElem_mem _
        have e := rdW w hv _ _ ea hp
        have h := ih (j + 2) (s + rd (rd_L1 w (rd l (j : Int))) (rd l ((j + 1 : Nat) : Int))) (by omega) (ect hp) (by omega) (by omega)
        simp only [Nat.add_sub_cancel, show j + 2 - 1 = j + 1 by omega] at h ⊢
        rw [drop2 w l j (by omega)]
        rw [← Int.add_assoc]
        have hp' := hp
        have e' := e
        rw [show (((j + 1 : Nat) : Int)) = (j : Int) + 1 by omega] at hp' e'
        simp only [show (((j + 1 : Nat) : Int)) = (j : Int) + 1 from Int.natCast_add j 1, if_pos (show (j : Int) + 1 > 0 by omega), Int.add_sub_cancel, w64 (x := (j : Int)) (by omega) (by omega), if_pos (show (0 : Int) ≤ (j : Int) by omega), if_pos (show (j : Int) < (l.length : Int) by omega), if_pos ea.1, if_pos ea.2, if_pos hp'.1, e'.2.2, if_pos hp'.2, w64 (x := s + rd (rd_L1 w (rd l (j : Int))) (rd l ((j : Int) + 1))) (by omega) (by omega), w64 (x := (j : Int) + 1 + 1) (by omega) (by omega)]
        rw [show (((j + 2 : Nat) : Int)) = (j : Int) + 1 + 1 by omega, show (((j + 1 : Nat) : Int)) = (j : Int) + 1 by omega] at h
        by_cases h4 : inL w (l.drop (j + 2))
        · rw [if_pos h4] at h
          rw [if_pos (ecd.2 ⟨hp, h4⟩)]
          exact h
        · rw [if_neg h4] at h
          rw [if_neg (fun h5 => h4 (ecd.1 h5).2)]
          exact h
    · simp only [decide_eq_false hp]
      rw [if_neg (fun h5 => hp (ecd.1 h5).1)]
      simp only [if_neg (show ¬ false = true by simp)]
      exact Ev.now _
theorem rlen_f (w : List (List Int)) (l : List Int) (hl : l.length ≤ 100) : Ev (fun k => haulierref27_Length.f k w l) (lenS w l) := by
  unfold haulierref27_Length.f lenS
  refine Ev.bind (refchk_f w) ?_
  by_cases h : (chkW w).2.2 = 0
  · have hv := (chkW_ok w).1 h
    simp only [if_pos h]
    have := rlen_l0 w hv l hl l.length 0 0 (by omega) (by simp [inL]) (by omega) (by omega)
    simp only [List.drop_zero, Nat.zero_sub, Int.zero_add] at this
    exact this
  · simp only [if_neg h]
    exact Ev.now _
theorem cl_j2 (w : List (List Int)) (l : List Int) (hl : l.length ≤ 60) (c : Int) (z : Bool) (hz : z = false → (chkW w).2.2 = 0 ∧ inL w l ∧ 0 ≤ c ∧ c < l.length) : Ev (fun k => haulierlaw27_ChartLengths.j2 k w l c (lenS w l).1 z) true := by
  refine ev_succ ?_
  simp only [haulierlaw27_ChartLengths.j2]
  by_cases h : z = true
  · simp only [if_pos h]
    exact Ev.bind chalive_f (Ev.now _)
  · obtain ⟨h1, h2, h3, h4⟩ := hz (by simpa using h)
    have hv := (chkW_ok w).1 h1
    simp only [if_neg h, w64 (x := c + 1) (by omega) (by omega), if_pos (show 0 ≤ c + 1 by omega), if_pos (show c + 1 ≤ (l.length : Int) by omega), if_pos h3, if_pos (show c ≤ (l.length : Int) by omega)]
    have t1 : inL w (l.take (c + 1).toNat) := fun x hx => h2 x (List.mem_of_mem_take hx)
    have t2 : inL w (l.drop c.toNat) := fun x hx => h2 x (List.mem_of_mem_drop hx)
    refine Ev.bind (len_f w _ (by rw [List.length_take]; omega)) (Ev.bind (len_f w _ (by rw [List.length_drop]; omega)) ?_)
    have s1 := sumL_pos w hv _ t1
    have s2 := sumL_pos w hv _ t2
    have s3 := sumL_cut w l c.toNat (by omega)
    have e : (c + 1).toNat = c.toNat + 1 := by omega
    rw [List.length_take] at s1
    rw [List.length_drop] at s2
    simp only [lenS, if_pos h1, if_pos h2, if_pos t1, if_pos t2, if_true]
    rw [w64 (by omega) (by omega), e, s3]
    simp only [if_true]
    exact Ev.bind chalive_f (Ev.now _)
theorem cl_j0 (w : List (List Int)) (l : List Int) (c : Int) (z : Bool) (hz : z = false → l.length ≤ 60) : Ev (fun k => haulierlaw27_ChartLengths.j0 k w l c z) true := by
  refine ev_succ ?_
  simp only [haulierlaw27_ChartLengths.j0]
  by_cases h : z = true
  · simp only [if_pos h]
    exact Ev.bind chalive_f (Ev.now _)
  · have hl := hz (by simpa using h)
    simp only [if_neg h]
    refine Ev.bind (len_f w l (by omega)) (Ev.bind (rlen_f w l (by omega)) ?_)
    simp only [if_true, bne_self_eq_false]
    refine ev_succ ?_
    simp only [haulierlaw27_ChartLengths.j1, if_neg (show ¬ false = true by simp)]
    by_cases h1 : (lenS w l).2 = 0
    · have h2 : (chkW w).2.2 = 0 ∧ inL w l := by
        unfold lenS at h1
        by_cases h3 : (chkW w).2.2 = 0
        · rw [if_pos h3] at h1
          refine ⟨h3, Classical.byContradiction fun h4 => ?_⟩
          rw [if_neg h4] at h1
          simp at h1
        · rw [if_neg h3] at h1
          exact absurd h1 h3
      simp only [if_pos h1]
      by_cases h3 : c < 0
      · simp only [if_pos h3]
        exact cl_j2 w l hl c true (by simp)
      · simp only [if_neg h3]
        exact cl_j2 w l hl c _ (by simp; intro h4; exact ⟨h2.1, h2.2, by omega, h4⟩)
    · simp only [if_neg h1]
      exact cl_j2 w l hl c true (by simp)
theorem ChartLengths : haulierlaw27_ChartLengths.Pure := by
  intro w l c hw _ _ _ _ _
  refine Ev.rounds ?_
  unfold haulierlaw27_ChartLengths.f
  refine Ev.bind (light_f w hw 40) ?_
  by_cases hL : lightS w 40 = true
  · simp only [if_pos hL]
    exact cl_j0 w l c _ (by simp; omega)
  · simp only [if_neg hL]
    exact cl_j0 w l c true (by simp)


end Go.Proofs.Ytecncfnbeocneaa.Pure
