/- Which charts may be used, what the way between two places says, and whether a chart is a metric, is what the reference says: for every list of lists and every two numbers of 64 bits. -/
import Derived.Test.YtecncfnbeocneaaMChartChecksx8
set_option linter.unusedVariables false
set_option linter.unusedSimpArgs false
namespace Go.Proofs.Ytecncfnbeocneaa.Pure
open Go.RowKit Go.Proofs.Ytecncfnbeocneaa.MChartChecks Go.Proofs.YtecncfnbeocneaaW.PrintWords Go.Proofs.YtecncfnbeocneaaW.PrintLast

theorem w64 {x : Int} (h0 : -9223372036854775808 ≤ x) (h1 : x ≤ 9223372036854775807) : wrap64 x = x := by
  unfold wrap64
  omega
theorem tmod_nn {a : Int} (h : 0 ≤ a) (b : Int) : Int.tmod a b = a % b := by
  rw [Int.tmod_eq_emod_of_nonneg h]
theorem tdiv_nn {a : Int} (h : 0 ≤ a) (b : Int) : Int.tdiv a b = a / b := by
  rw [Int.tdiv_eq_ediv_of_nonneg h]
theorem ev_succ {α : Type} {g : Nat → Option α} {r : α} (h : Ev (fun k => g (k + 1)) r) : Ev g r := by
  obtain ⟨K, h⟩ := h
  refine ⟨K + 1, fun n hn => ?_⟩
  obtain ⟨m, rfl⟩ : ∃ m, n = m + 1 := ⟨n - 1, by omega⟩
  exact h m (by omega)

def IR (x : Int) : Prop := -9223372036854775808 ≤ x ∧ x ≤ 9223372036854775807
theorem ir_of {x : Int} (h : (Lit.int .i64 x).wf = true) : IR x := by simpa [IR, Lit.wf, IntKind.min, IntKind.max, IntKind.signed, IntKind.bits] using h
theorem rd_drop (xs : List Int) (i : Nat) (h : i < xs.length) : xs.drop i = rd xs (i : Int) :: xs.drop (i + 1) := by
  rw [List.drop_eq_getElem_cons h]
  simp [rd, h]
theorem rd_mem (xs : List Int) (i : Nat) (h : i < xs.length) : rd xs (i : Int) ∈ xs := by
  simp [rd, h]

theorem rdL_drop (xs : List (List Int)) (i : Nat) (h : i < xs.length) : xs.drop i = rd_L1 xs (i : Int) :: xs.drop (i + 1) := by
  rw [List.drop_eq_getElem_cons h]
  simp [rd_L1, h]
theorem rdL_mem (xs : List (List Int)) (i : Nat) (h : i < xs.length) : rd_L1 xs (i : Int) ∈ xs := by simp [rd_L1, h]
def lightB (m : Int) (l : List (List Int)) : Bool := l.all fun x => decide ((x.length : Int) ≤ m)
theorem light_l0 (m : Int) (l : List (List Int)) (hl : l.length ≤ maxLen) (d : Nat) : ∀ i : Nat, i + d = l.length → Ev (fun k => haulierlaw27_Light.l0 k m l (l.length : Int) (i : Int)) (lightB m (l.drop i)) := by
  unfold maxLen at hl
  induction d with
  | zero =>
    intro i hi
    rw [List.drop_of_length_le (by omega)]
    refine ev_succ ?_
    simp only [haulierlaw27_Light.l0, if_neg (show ¬ (i : Int) < (l.length : Int) by omega)]
    exact Ev.now _
  | succ d ih =>
    intro i hi
    rw [rdL_drop l i (by omega)]
    have h := ih (i + 1) (by omega)
    rw [show (((i + 1 : Nat) : Int)) = (i : Int) + 1 by omega] at h
    refine ev_succ ?_
    simp only [haulierlaw27_Light.l0, lightB, List.all_cons, if_pos (show (i : Int) < (l.length : Int) by omega), if_pos (show (0 : Int) ≤ (i : Int) by omega), w64 (x := (i : Int) + 1) (by omega) (by omega)]
    by_cases h0 : ((rd_L1 l (i : Int)).length : Int) > m
    · simp only [if_pos h0]
      rw [decide_eq_false (by omega), Bool.false_and]
      exact Ev.now _
    · simp only [if_neg h0]
      rw [decide_eq_true (by omega), Bool.true_and]
      exact h
def lightS (l : List (List Int)) (m : Int) : Bool := decide ((l.length : Int) ≤ m) && lightB m l
theorem light_f (l : List (List Int)) (hl : l.length ≤ maxLen) (m : Int) : Ev (fun k => haulierlaw27_Light.f k l m) (lightS l m) := by
  unfold haulierlaw27_Light.f lightS
  by_cases h : (l.length : Int) > m
  · simp only [if_pos h]
    rw [decide_eq_false (by omega), Bool.false_and]
    exact Ev.now _
  · simp only [if_neg h]
    rw [decide_eq_true (by omega), Bool.true_and]
    exact light_l0 m l hl l.length 0 (by omega)
def rowS (r : Int) : Int → List Int → Int × Int
  | _, [] => (0, 0)
  | c, m :: l => if m < 0 ∨ m > 10080 then (c, 4) else if c = r ∧ m ≠ 0 then (c, 1) else rowS r (c + 1) l
def chkRows (n : Nat) : Int → List (List Int) → Int × Int × Int
  | _, [] => (0, 0, 0)
  | r, l :: ls => if l.length ≠ n then (r, 0, 18) else if (rowS r 0 l).2 ≠ 0 then (r, (rowS r 0 l).1, (rowS r 0 l).2) else chkRows n (r + 1) ls
def chkW (w : List (List Int)) : Int × Int × Int := if w.length = 0 then (0, 0, 13) else if w.length > 200 then (0, 0, 12) else chkRows w.length 0 w
theorem row_l0 (r : Int) (l : List Int) (hl : l.length ≤ 1000) (d : Nat) : ∀ i : Nat, i + d = l.length → Ev (fun k => chart_row.l0 k r l (l.length : Int) (i : Int)) (rowS r i (l.drop i)) := by
  induction d with
  | zero =>
    intro i hi
    rw [List.drop_of_length_le (by omega)]
    refine ev_succ ?_
    simp only [chart_row.l0, if_neg (show ¬ (i : Int) < (l.length : Int) by omega)]
    exact Ev.now _
  | succ d ih =>
    intro i hi
    rw [rd_drop l i (by omega)]
    have h := ih (i + 1) (by omega)
    rw [show (((i + 1 : Nat) : Int)) = (i : Int) + 1 by omega] at h
    have hj : ∀ z : Bool, (z = true ↔ rd l (i : Int) < 0 ∨ rd l (i : Int) > 10080) → Ev (fun k => chart_row.j1 k r (i : Int) (rd l (i : Int)) l (l.length : Int) (i : Int) z) (rowS r i (rd l (i : Int) :: l.drop (i + 1))) := by
      intro z hz
      refine ev_succ ?_
      simp only [chart_row.j1, rowS, w64 (x := (i : Int) + 1) (by omega) (by omega)]
      by_cases hzt : z = true
      · simp only [if_pos hzt, if_pos (hz.1 hzt)]
        exact Ev.now _
      · have hz' : ¬ (rd l (i : Int) < 0 ∨ rd l (i : Int) > 10080) := fun h => hzt (hz.2 h)
        simp only [if_neg hzt, if_neg hz']
        by_cases h1 : (i : Int) = r
        · by_cases h2 : rd l (i : Int) = 0
          · simp only [if_pos h1, if_pos h2, if_neg (show ¬ ((i : Int) = r ∧ rd l (i : Int) ≠ 0) from fun h => h.2 h2)]
            exact h
          · simp only [if_pos h1, if_neg h2, if_pos (show (i : Int) = r ∧ rd l (i : Int) ≠ 0 from ⟨h1, h2⟩)]
            exact Ev.now _
        · simp only [if_neg h1, if_neg (show ¬ ((i : Int) = r ∧ rd l (i : Int) ≠ 0) from fun h => h1 h.1)]
          exact h
    refine ev_succ ?_
    simp only [chart_row.l0, if_pos (show (i : Int) < (l.length : Int) by omega), if_pos (show (0 : Int) ≤ (i : Int) by omega)]
    by_cases h0 : rd l (i : Int) < 0
    · simp only [if_pos h0]
      exact hj _ (by simp [h0])
    · simp only [if_neg h0]
      exact hj _ (by simp; omega)
theorem row_f (l : List Int) (r : Int) (n : Nat) (hn : n ≤ 1000) : Ev (fun k => chart_row.f k l r (n : Int)) (if l.length ≠ n then (0, 18) else rowS r 0 l) := by
  unfold chart_row.f
  by_cases h : l.length = n
  · simp only [if_pos (show (l.length : Int) = (n : Int) by omega), h, ne_eq, not_true, if_false]
    have := row_l0 r l (by omega) l.length 0 (by omega)
    rw [h] at this
    simpa using this
  · simp only [if_neg (show ¬ (l.length : Int) = (n : Int) by omega), ne_eq, h, not_false_eq_true, if_true]
    exact Ev.now _
theorem check_l0 (w : List (List Int)) (hw : w.length ≤ 200) (d : Nat) : ∀ i : Nat, i + d = w.length → Ev (fun k => chart_Check.l0 k w w (w.length : Int) (i : Int)) (chkRows w.length i (w.drop i)) := by
  induction d with
  | zero =>
    intro i hi
    rw [List.drop_of_length_le (by omega)]
    refine ev_succ ?_
    simp only [chart_Check.l0, if_neg (show ¬ (i : Int) < (w.length : Int) by omega)]
    exact Ev.now _
  | succ d ih =>
    intro i hi
    rw [rdL_drop w i (by omega)]
    have h := ih (i + 1) (by omega)
    rw [show (((i + 1 : Nat) : Int)) = (i : Int) + 1 by omega] at h
    refine ev_succ ?_
    simp only [chart_Check.l0, chkRows, if_pos (show (i : Int) < (w.length : Int) by omega), if_pos (show (0 : Int) ≤ (i : Int) by omega), w64 (x := (i : Int) + 1) (by omega) (by omega)]
    refine Ev.bind (row_f _ _ _ (by omega)) ?_
    by_cases h0 : (rd_L1 w (i : Int)).length ≠ w.length
    · simp only [if_pos h0, if_neg (show ¬ (18 : Int) = 0 by omega)]
      exact Ev.now _
    · simp only [if_neg h0]
      by_cases h1 : (rowS (i : Int) 0 (rd_L1 w (i : Int))).2 = 0
      · simp only [if_pos h1, ne_eq, h1, not_true, if_false]
        exact h
      · simp only [if_neg h1, ne_eq, h1, not_false_eq_true, if_true]
        exact Ev.now _
theorem check_f (w : List (List Int)) : Ev (fun k => chart_Check.f k w) (chkW w) := by
  unfold chart_Check.f chkW
  by_cases h : w.length = 0
  · simp only [if_pos (show (w.length : Int) = 0 by omega), if_pos h]
    exact Ev.now _
  · simp only [if_neg (show ¬ (w.length : Int) = 0 by omega), if_neg h]
    by_cases h2 : w.length > 200
    · simp only [if_pos (show (w.length : Int) > 200 by omega), if_pos h2]
      exact Ev.now _
    · simp only [if_neg (show ¬ (w.length : Int) > 200 by omega), if_neg h2]
      exact check_l0 w (by omega) w.length 0 (by omega)
def W (w : List (List Int)) (a b : Nat) : Int := rd (rd_L1 w (a : Int)) (b : Int)
structure VW (w : List (List Int)) : Prop where
  pos : 0 < w.length
  le : w.length ≤ 200
  rows : ∀ a, a < w.length → (rd_L1 w (a : Int)).length = w.length
  lo : ∀ a b, a < w.length → b < w.length → 0 ≤ W w a b
  hi : ∀ a b, a < w.length → b < w.length → W w a b ≤ 10080
  diag : ∀ a, a < w.length → W w a a = 0
theorem rowS_ok (r : Int) (l : List Int) : ∀ c : Int, (rowS r c l).2 = 0 ↔ ∀ i : Nat, i < l.length → 0 ≤ rd l (i : Int) ∧ rd l (i : Int) ≤ 10080 ∧ (c + i = r → rd l (i : Int) = 0) := by
  induction l with
  | nil => intro c; simp [rowS]
  | cons m l ih =>
    intro c
    simp only [rowS]
    have hs : (∀ i : Nat, i < (m :: l).length → 0 ≤ rd (m :: l) (i : Int) ∧ rd (m :: l) (i : Int) ≤ 10080 ∧ (c + i = r → rd (m :: l) (i : Int) = 0)) ↔ (0 ≤ m ∧ m ≤ 10080 ∧ (c = r → m = 0)) ∧ ∀ i : Nat, i < l.length → 0 ≤ rd l (i : Int) ∧ rd l (i : Int) ≤ 10080 ∧ (c + 1 + i = r → rd l (i : Int) = 0) := by
      constructor
      · intro h
        refine ⟨?_, fun i hi => ?_⟩
        · have := h 0 (by simp)
          simpa [rd] using this
        · have := h (i + 1) (by simp; omega)
          simp only [rd, Int.toNat_natCast, List.getD_cons_succ] at this ⊢
          exact ⟨this.1, this.2.1, fun h => this.2.2 (by omega)⟩
      · rintro ⟨h0, h⟩ i hi
        cases i with
        | zero => simpa [rd] using h0
        | succ i =>
          have := h i (by simpa using hi)
          simp only [rd, Int.toNat_natCast, List.getD_cons_succ] at this ⊢
          exact ⟨this.1, this.2.1, fun h => this.2.2 (by omega)⟩
    rw [hs, ← ih]
    by_cases h1 : m < 0 ∨ m > 10080
    · rw [if_pos h1]
      simp
      omega
    · rw [if_neg h1]
      by_cases h2 : c = r ∧ m ≠ 0
      · rw [if_pos h2]
        simp
        intro _ _ h
        exact absurd (h h2.1) h2.2
      · rw [if_neg h2]
        constructor
        · intro h
          refine ⟨⟨by omega, by omega, fun h3 => ?_⟩, h⟩
          by_cases h4 : m = 0
          · exact h4
          · exact absurd ⟨h3, h4⟩ h2
        · exact fun h => h.2
theorem chkRows_ok (n : Nat) (ls : List (List Int)) : ∀ r : Int, (chkRows n r ls).2.2 = 0 ↔ ∀ a : Nat, a < ls.length → (rd_L1 ls (a : Int)).length = n ∧ (rowS (r + a) 0 (rd_L1 ls (a : Int))).2 = 0 := by
  induction ls with
  | nil => intro r; simp [chkRows]
  | cons l ls ih =>
    intro r
    simp only [chkRows]
    have hs : (∀ a : Nat, a < (l :: ls).length → (rd_L1 (l :: ls) (a : Int)).length = n ∧ (rowS (r + a) 0 (rd_L1 (l :: ls) (a : Int))).2 = 0) ↔ (l.length = n ∧ (rowS r 0 l).2 = 0) ∧ ∀ a : Nat, a < ls.length → (rd_L1 ls (a : Int)).length = n ∧ (rowS (r + 1 + a) 0 (rd_L1 ls (a : Int))).2 = 0 := by
      constructor
      · intro h
        refine ⟨by simpa [rd_L1] using h 0 (by simp), fun a ha => ?_⟩
        have := h (a + 1) (by simp; omega)
        simp only [rd_L1, Int.toNat_natCast, List.getD_cons_succ] at this ⊢
        rw [show r + 1 + (a : Int) = r + ((a + 1 : Nat) : Int) by omega]
        exact this
      · rintro ⟨h0, h⟩ a ha
        cases a with
        | zero => simpa [rd_L1] using h0
        | succ a =>
          have := h a (by simpa using ha)
          simp only [rd_L1, Int.toNat_natCast, List.getD_cons_succ] at this ⊢
          rw [show r + ((a + 1 : Nat) : Int) = r + 1 + (a : Int) by omega]
          exact this
    rw [hs, ← ih]
    by_cases h1 : l.length = n
    · rw [if_neg (by simp [h1])]
      by_cases h2 : (rowS r 0 l).2 = 0
      · rw [if_neg (by simp [h2])]
        simp [h1, h2]
      · rw [if_pos h2]
        simp [h2]
    · rw [if_pos h1]
      simp [h1]
theorem chkW_ok (w : List (List Int)) : (chkW w).2.2 = 0 ↔ VW w := by
  unfold chkW
  by_cases h : w.length = 0
  · rw [if_pos h]
    simp
    intro hv
    have := hv.pos
    omega
  · rw [if_neg h]
    by_cases h2 : w.length > 200
    · rw [if_pos h2]
      simp
      intro hv
      have := hv.le
      omega
    · rw [if_neg h2, chkRows_ok]
      constructor
      · intro h3
        have h4 : ∀ a b : Nat, a < w.length → b < w.length → 0 ≤ W w a b ∧ W w a b ≤ 10080 ∧ (a = b → W w a b = 0) := by
          intro a b ha hb
          obtain ⟨h5, h6⟩ := h3 a ha
          have := (rowS_ok _ _ _).1 h6 b (by omega)
          exact ⟨this.1, this.2.1, fun e => this.2.2 (by omega)⟩
        exact ⟨by omega, by omega, fun a ha => (h3 a ha).1, fun a b ha hb => (h4 a b ha hb).1, fun a b ha hb => (h4 a b ha hb).2.1, fun a ha => (h4 a a ha ha).2.2 rfl⟩
      · intro hv a ha
        refine ⟨hv.rows a ha, (rowS_ok _ _ _).2 fun i hi => ?_⟩
        rw [hv.rows a ha] at hi
        refine ⟨hv.lo a i ha hi, hv.hi a i ha hi, fun e => ?_⟩
        have : i = a := by omega
        subst this
        exact hv.diag i ha
def plS (w : List (List Int)) (l : List Int) : Int := if (chkW w).2.2 = 0 then (if ∀ a ∈ l, 0 ≤ a ∧ a < w.length then 0 else 10) else (chkW w).2.2
theorem places_l0 (w : List (List Int)) (l : List Int) (hl : l.length ≤ 1000000) (d : Nat) : ∀ i : Nat, i + d = l.length → Ev (fun k => chart_places.l0 k w l (l.length : Int) (i : Int)) (if ∀ a ∈ l.drop i, 0 ≤ a ∧ a < w.length then 0 else 10) := by
  induction d with
  | zero =>
    intro i hi
    rw [List.drop_of_length_le (by omega)]
    refine ev_succ ?_
    simp only [chart_places.l0, if_neg (show ¬ (i : Int) < (l.length : Int) by omega)]
    rw [if_pos (by simp)]
    exact Ev.now _
  | succ d ih =>
    intro i hi
    rw [rd_drop l i (by omega)]
    have h := ih (i + 1) (by omega)
    rw [show (((i + 1 : Nat) : Int)) = (i : Int) + 1 by omega] at h
    refine ev_succ ?_
    simp only [chart_places.l0, if_pos (show (i : Int) < (l.length : Int) by omega), if_pos (show (0 : Int) ≤ (i : Int) by omega), w64 (x := (i : Int) + 1) (by omega) (by omega)]
    by_cases h0 : rd l (i : Int) < 0
    · simp only [if_pos h0]
      rw [if_neg (by intro h2; have := h2 _ List.mem_cons_self; omega)]
      exact Ev.now _
    · by_cases h1 : rd l (i : Int) ≥ (w.length : Int)
      · simp only [if_neg h0, if_pos h1]
        rw [if_neg (by intro h2; have := h2 _ List.mem_cons_self; omega)]
        exact Ev.now _
      · simp only [if_neg h0, if_neg h1]
        by_cases h2 : ∀ a ∈ l.drop (i + 1), 0 ≤ a ∧ a < (w.length : Int)
        · rw [if_pos h2] at h
          rw [if_pos (by rw [List.forall_mem_cons]; exact ⟨by omega, h2⟩)]
          exact h
        · rw [if_neg h2] at h
          rw [if_neg (by rw [List.forall_mem_cons]; exact fun h3 => h2 h3.2)]
          exact h
theorem places_f (w : List (List Int)) (l : List Int) (hl : l.length ≤ 1000000) : Ev (fun k => chart_places.f k w l) (plS w l) := by
  unfold chart_places.f plS
  refine Ev.bind (check_f w) ?_
  by_cases h : (chkW w).2.2 = 0
  · simp only [if_pos h]
    exact places_l0 w l hl l.length 0 (by omega)
  · simp only [if_neg h]
    exact Ev.now _
theorem chalive_f : Ev (fun k => haulierlaw27_alive.f k) true := by
  refine Ev.of (k := 60) haulierlaw27_alive.mono ?_
  decide +kernel

theorem refchk_l1 (w : List (List Int)) (hw : w.length ≤ 200) (r : Nat) (hr : r < w.length) (hl : (rd_L1 w (r : Int)).length = w.length) (R : Int × Int × Int) (hR : Ev (fun k => haulierref27_Check.l0 k w ((r : Int) + 1)) R) (d : Nat) : ∀ i : Nat, i + d = w.length → Ev (fun k => haulierref27_Check.l1 k w (r : Int) (i : Int)) (if (rowS (r : Int) i ((rd_L1 w (r : Int)).drop i)).2 ≠ 0 then ((r : Int), (rowS (r : Int) i ((rd_L1 w (r : Int)).drop i)).1, (rowS (r : Int) i ((rd_L1 w (r : Int)).drop i)).2) else R) := by
  induction d with
  | zero =>
    intro i hi
    rw [List.drop_of_length_le (by omega)]
    refine ev_succ ?_
    simp only [haulierref27_Check.l1, if_neg (show ¬ (i : Int) < (w.length : Int) by omega), w64 (x := (r : Int) + 1) (by omega) (by omega)]
    simpa [rowS] using hR
  | succ d ih =>
    intro i hi
    rw [rd_drop (rd_L1 w (r : Int)) i (by omega)]
    have h := ih (i + 1) (by omega)
    rw [show (((i + 1 : Nat) : Int)) = (i : Int) + 1 by omega] at h
    have hj : ∀ z : Bool, (z = true ↔ rd (rd_L1 w (r : Int)) (i : Int) < 0 ∨ rd (rd_L1 w (r : Int)) (i : Int) > 10080) → Ev (fun k => haulierref27_Check.j2 k w (r : Int) (i : Int) z) (if (rowS (r : Int) i (rd (rd_L1 w (r : Int)) (i : Int) :: (rd_L1 w (r : Int)).drop (i + 1))).2 ≠ 0 then ((r : Int), (rowS (r : Int) i (rd (rd_L1 w (r : Int)) (i : Int) :: (rd_L1 w (r : Int)).drop (i + 1))).1, (rowS (r : Int) i (rd (rd_L1 w (r : Int)) (i : Int) :: (rd_L1 w (r : Int)).drop (i + 1))).2) else R) := by
      intro z hz
      refine ev_succ ?_
      simp only [haulierref27_Check.j2, rowS, w64 (x := (i : Int) + 1) (by omega) (by omega), if_pos (show (0 : Int) ≤ (i : Int) by omega), if_pos (show (0 : Int) ≤ (r : Int) by omega), if_pos (show (r : Int) < (w.length : Int) by omega), if_pos (show (i : Int) < ((rd_L1 w (r : Int)).length : Int) by omega)]
      by_cases hzt : z = true
      · simp only [if_pos hzt, if_pos (hz.1 hzt)]
        exact Ev.now _
      · have hz' : ¬ (rd (rd_L1 w (r : Int)) (i : Int) < 0 ∨ rd (rd_L1 w (r : Int)) (i : Int) > 10080) := fun h => hzt (hz.2 h)
        simp only [if_neg hzt, if_neg hz']
        by_cases h1 : (r : Int) = i
        · by_cases h2 : rd (rd_L1 w (r : Int)) (i : Int) = 0
          · simp only [if_pos h1, if_pos h2, if_neg (show ¬ ((i : Int) = r ∧ rd (rd_L1 w (r : Int)) (i : Int) ≠ 0) from fun h => h.2 h2)]
            exact h
          · simp only [if_pos h1, if_neg h2, if_pos (show (i : Int) = r ∧ rd (rd_L1 w (r : Int)) (i : Int) ≠ 0 from ⟨h1.symm, h2⟩)]
            exact Ev.now _
        · simp only [if_neg h1, if_neg (show ¬ ((i : Int) = r ∧ rd (rd_L1 w (r : Int)) (i : Int) ≠ 0) from fun h => h1 h.1.symm)]
          exact h
    refine ev_succ ?_
    simp only [haulierref27_Check.l1, if_pos (show (i : Int) < (w.length : Int) by omega), if_pos (show (0 : Int) ≤ (i : Int) by omega), if_pos (show (0 : Int) ≤ (r : Int) by omega), if_pos (show (r : Int) < (w.length : Int) by omega), if_pos (show (i : Int) < ((rd_L1 w (r : Int)).length : Int) by omega)]
    by_cases h0 : rd (rd_L1 w (r : Int)) (i : Int) < 0
    · simp only [if_pos h0]
      exact hj _ (by simp [h0])
    · simp only [if_neg h0]
      exact hj _ (by simp; omega)
theorem refchk_l0 (w : List (List Int)) (hw : w.length ≤ 200) (d : Nat) : ∀ i : Nat, i + d = w.length → Ev (fun k => haulierref27_Check.l0 k w (i : Int)) (chkRows w.length i (w.drop i)) := by
  induction d with
  | zero =>
    intro i hi
    rw [List.drop_of_length_le (by omega)]
    refine ev_succ ?_
    simp only [haulierref27_Check.l0, if_neg (show ¬ (i : Int) < (w.length : Int) by omega)]
    exact Ev.now _
  | succ d ih =>
    intro i hi
    rw [rdL_drop w i (by omega)]
    have h := ih (i + 1) (by omega)
    rw [show (((i + 1 : Nat) : Int)) = (i : Int) + 1 by omega] at h
    refine ev_succ ?_
    simp only [haulierref27_Check.l0, chkRows, if_pos (show (i : Int) < (w.length : Int) by omega), if_pos (show (0 : Int) ≤ (i : Int) by omega)]
    by_cases h0 : (rd_L1 w (i : Int)).length = w.length
    · simp only [if_pos (show ((rd_L1 w (i : Int)).length : Int) = (w.length : Int) by omega), if_neg (show ¬ (rd_L1 w (i : Int)).length ≠ w.length by omega)]
      have := refchk_l1 w hw i (by omega) h0 _ h w.length 0 (by omega)
      simpa using this
    · simp only [if_neg (show ¬ ((rd_L1 w (i : Int)).length : Int) = (w.length : Int) by omega), if_pos (show (rd_L1 w (i : Int)).length ≠ w.length by omega)]
      exact Ev.now _
theorem refchk_f (w : List (List Int)) : Ev (fun k => haulierref27_Check.f k w) (chkW w) := by
  unfold haulierref27_Check.f chkW
  by_cases h : w.length = 0
  · simp only [if_pos (show (w.length : Int) = 0 by omega), if_pos h]
    exact Ev.now _
  · simp only [if_neg (show ¬ (w.length : Int) = 0 by omega), if_neg h]
    by_cases h2 : w.length > 200
    · simp only [if_pos (show (w.length : Int) > 200 by omega), if_pos h2]
      exact Ev.now _
    · simp only [if_neg (show ¬ (w.length : Int) > 200 by omega), if_neg h2]
      exact refchk_l0 w (by omega) w.length 0 (by omega)
def inW (w : List (List Int)) (a : Int) : Prop := 0 ≤ a ∧ a < w.length
theorem pl2 (w : List (List Int)) (a b : Int) : (∀ x ∈ ([a, b] : List Int), 0 ≤ x ∧ x < (w.length : Int)) ↔ inW w a ∧ inW w b := by simp [inW]
open Classical in
noncomputable def wayS (w : List (List Int)) (a b : Int) : Int × Int := if (chkW w).2.2 = 0 then (if inW w a ∧ inW w b then (rd (rd_L1 w a) b, 0) else (0, 10)) else (0, (chkW w).2.2)
theorem way_f (w : List (List Int)) (a b : Int) : Ev (fun k => chart_Way.f k w a b) (wayS w a b) := by
  unfold chart_Way.f wayS
  refine Ev.bind (places_f w [a, b] (by simp)) ?_
  unfold plS
  by_cases h : (chkW w).2.2 = 0
  · have hv := (chkW_ok w).1 h
    simp only [if_pos h]
    by_cases h2 : inW w a ∧ inW w b
    · have hl : (rd_L1 w a).length = w.length := by
        have := hv.rows a.toNat (by have := h2.1.1; have := h2.1.2; omega)
        rwa [Int.toNat_of_nonneg h2.1.1] at this
      simp only [if_pos ((pl2 w a b).2 h2), if_pos h2, if_pos h2.1.1, if_pos h2.1.2, if_pos h2.2.1, hl, if_pos h2.2.2, if_true]
      exact Ev.now _
    · simp only [if_neg (fun h3 => h2 ((pl2 w a b).1 h3)), if_neg h2, if_neg (show ¬ (10 : Int) = 0 by omega)]
      exact Ev.now _
  · simp only [if_neg h]
    exact Ev.now _
theorem W_hi (w : List (List Int)) (hv : VW w) (a b : Nat) (ha : a < w.length) (hb : b < w.length) : 0 ≤ rd (rd_L1 w (a : Int)) (b : Int) ∧ rd (rd_L1 w (a : Int)) (b : Int) ≤ 10080 := ⟨hv.lo a b ha hb, hv.hi a b ha hb⟩
def triW (w : List (List Int)) (a m b : Nat) : Prop := W w a b ≤ W w a m + W w m b
section
variable (w : List (List Int)) (hv : VW w)
include hv
theorem met_l2 (a m : Nat) (ha : a < w.length) (hm : m < w.length) (r : Bool) (hr : Ev (fun k => chart_Metric.l1 k w (rd_L1 w (a : Int)) w (w.length : Int) (a : Int) (rd_L1 w (a : Int)) (w.length : Int) ((m : Int) + 1)) r) (d : Nat) : ∀ i : Nat, i + d = w.length → ∀ s : Bool, (s = true ↔ (∀ b, i ≤ b → b < w.length → triW w a m b) ∧ r = true) → Ev (fun k => chart_Metric.l2 k w (rd_L1 w (a : Int)) (rd (rd_L1 w (a : Int)) (m : Int)) w (w.length : Int) (a : Int) (rd_L1 w (a : Int)) (w.length : Int) (m : Int) (rd_L1 w (m : Int)) (w.length : Int) (i : Int)) s := by
  have hle := hv.le
  induction d with
  | zero =>
    intro i hi s hs
    have : s = r := by
      rw [Bool.eq_iff_iff, hs]
      exact ⟨fun h => h.2, fun h => ⟨fun b h1 h2 => by omega, h⟩⟩
    subst this
    refine ev_succ ?_
    simp only [chart_Metric.l2, if_neg (show ¬ (i : Int) < (w.length : Int) by omega), w64 (x := (m : Int) + 1) (by omega) (by omega)]
    exact hr
  | succ d ih =>
    intro i hi s hs
    have e1 := W_hi w hv a m ha hm
    have e2 := W_hi w hv m i hm (by omega)
    refine ev_succ ?_
    simp only [chart_Metric.l2, if_pos (show (i : Int) < (w.length : Int) by omega), if_pos (show (0 : Int) ≤ (i : Int) by omega), hv.rows m hm, hv.rows a ha, w64 (x := rd (rd_L1 w (a : Int)) (m : Int) + rd (rd_L1 w (m : Int)) (i : Int)) (by omega) (by omega), w64 (x := (i : Int) + 1) (by omega) (by omega)]
    by_cases h0 : rd (rd_L1 w (a : Int)) (i : Int) > rd (rd_L1 w (a : Int)) (m : Int) + rd (rd_L1 w (m : Int)) (i : Int)
    · simp only [if_pos h0]
      have : s = false := by
        rw [Bool.eq_false_iff]
        intro h
        have := (hs.1 h).1 i (by omega) (by omega)
        unfold triW W at this
        omega
      subst this
      exact Ev.now _
    · simp only [if_neg h0]
      have := ih (i + 1) (by omega) s (by
        rw [hs]
        constructor
        · exact fun h => ⟨fun b h1 h2 => h.1 b (by omega) h2, h.2⟩
        · refine fun h => ⟨fun b h1 h2 => ?_, h.2⟩
          by_cases h3 : b = i
          · subst h3
            unfold triW W
            omega
          · exact h.1 b (by omega) h2)
      rwa [show (((i + 1 : Nat) : Int)) = (i : Int) + 1 by omega] at this
theorem met_l1 (a : Nat) (ha : a < w.length) (r : Bool) (hr : Ev (fun k => chart_Metric.l0 k w w (w.length : Int) ((a : Int) + 1)) r) (d : Nat) : ∀ i : Nat, i + d = w.length → ∀ s : Bool, (s = true ↔ (∀ m, i ≤ m → m < w.length → ∀ b, b < w.length → triW w a m b) ∧ r = true) → Ev (fun k => chart_Metric.l1 k w (rd_L1 w (a : Int)) w (w.length : Int) (a : Int) (rd_L1 w (a : Int)) (w.length : Int) (i : Int)) s := by
  have hle := hv.le
  induction d with
  | zero =>
    intro i hi s hs
    have : s = r := by
      rw [Bool.eq_iff_iff, hs]
      exact ⟨fun h => h.2, fun h => ⟨fun b h1 h2 => by omega, h⟩⟩
    subst this
    refine ev_succ ?_
    simp only [chart_Metric.l1, if_neg (show ¬ (i : Int) < (w.length : Int) by omega), w64 (x := (a : Int) + 1) (by omega) (by omega)]
    exact hr
  | succ d ih =>
    intro i hi s hs
    classical
    have h1 := ih (i + 1) (by omega) (decide ((∀ m, i + 1 ≤ m → m < w.length → ∀ b, b < w.length → triW w a m b) ∧ r = true)) decide_eq_true_iff
    rw [show (((i + 1 : Nat) : Int)) = (i : Int) + 1 by omega] at h1
    have h2 := met_l2 w hv a i ha (by omega) _ h1 w.length 0 (by omega) s (by
      rw [hs, decide_eq_true_iff]
      constructor
      · exact fun h => ⟨fun b _ h2 => h.1 i (by omega) (by omega) b h2, fun m h1 h2 => h.1 m (by omega) h2, h.2⟩
      · refine fun h => ⟨fun m h1 h2 b hb => ?_, h.2.2⟩
        by_cases h3 : m = i
        · subst h3
          exact h.1 b (by omega) hb
        · exact h.2.1 m (by omega) h2 b hb)
    refine ev_succ ?_
    simp only [chart_Metric.l1, if_pos (show (i : Int) < (w.length : Int) by omega), if_pos (show (0 : Int) ≤ (i : Int) by omega), hv.rows a ha, hv.rows i (by omega)]
    exact h2
theorem met_l0 (d : Nat) : ∀ i : Nat, i + d = w.length → ∀ s : Bool, (s = true ↔ (∀ a, i ≤ a → a < w.length → ∀ m, m < w.length → ∀ b, b < w.length → triW w a m b)) → Ev (fun k => chart_Metric.l0 k w w (w.length : Int) (i : Int)) s := by
  have hle := hv.le
  induction d with
  | zero =>
    intro i hi s hs
    have : s = true := by
      rw [hs]
      exact fun b h1 h2 => by omega
    subst this
    refine ev_succ ?_
    simp only [chart_Metric.l0, if_neg (show ¬ (i : Int) < (w.length : Int) by omega)]
    exact Ev.now _
  | succ d ih =>
    intro i hi s hs
    classical
    have h1 := ih (i + 1) (by omega) (decide (∀ a, i + 1 ≤ a → a < w.length → ∀ m, m < w.length → ∀ b, b < w.length → triW w a m b)) decide_eq_true_iff
    rw [show (((i + 1 : Nat) : Int)) = (i : Int) + 1 by omega] at h1
    have h2 := met_l1 w hv i (by omega) _ h1 w.length 0 (by omega) s (by
      rw [hs, decide_eq_true_iff]
      constructor
      · exact fun h => ⟨fun m _ hm b h2 => h i (by omega) (by omega) m hm b h2, fun a h1 h2 => h a (by omega) h2⟩
      · refine fun h a h1 h2 m hm b hb => ?_
        by_cases h3 : a = i
        · subst h3
          exact h.1 m (by omega) hm b hb
        · exact h.2 a (by omega) h2 m hm b hb)
    refine ev_succ ?_
    simp only [chart_Metric.l0, if_pos (show (i : Int) < (w.length : Int) by omega), if_pos (show (0 : Int) ≤ (i : Int) by omega), hv.rows i (by omega)]
    exact h2
theorem rmet_l2 (a m : Nat) (ha : a < w.length) (hm : m < w.length) (r : Bool) (hr : Ev (fun k => haulierref27_Metric.l1 k w (a : Int) ((m : Int) + 1)) r) (d : Nat) : ∀ i : Nat, i + d = w.length → ∀ s : Bool, (s = true ↔ (∀ b, i ≤ b → b < w.length → triW w a m b) ∧ r = true) → Ev (fun k => haulierref27_Metric.l2 k w (a : Int) (m : Int) (i : Int)) s := by
  have hle := hv.le
  induction d with
  | zero =>
    intro i hi s hs
    have : s = r := by
      rw [Bool.eq_iff_iff, hs]
      exact ⟨fun h => h.2, fun h => ⟨fun b h1 h2 => by omega, h⟩⟩
    subst this
    refine ev_succ ?_
    simp only [haulierref27_Metric.l2, if_neg (show ¬ (i : Int) < (w.length : Int) by omega), w64 (x := (m : Int) + 1) (by omega) (by omega)]
    exact hr
  | succ d ih =>
    intro i hi s hs
    have e1 := W_hi w hv a m ha hm
    have e2 := W_hi w hv m i hm (by omega)
    refine ev_succ ?_
    simp only [haulierref27_Metric.l2, if_pos (show (i : Int) < (w.length : Int) by omega), if_pos (show (0 : Int) ≤ (i : Int) by omega), if_pos (show (0 : Int) ≤ (a : Int) by omega), if_pos (show (a : Int) < (w.length : Int) by omega), if_pos (show (0 : Int) ≤ (m : Int) by omega), if_pos (show (m : Int) < (w.length : Int) by omega), hv.rows m hm, hv.rows a ha, w64 (x := rd (rd_L1 w (a : Int)) (m : Int) + rd (rd_L1 w (m : Int)) (i : Int)) (by omega) (by omega), w64 (x := (i : Int) + 1) (by omega) (by omega)]
    by_cases h0 : rd (rd_L1 w (a : Int)) (i : Int) > rd (rd_L1 w (a : Int)) (m : Int) + rd (rd_L1 w (m : Int)) (i : Int)
    · simp only [if_pos h0]
      have : s = false := by
        rw [Bool.eq_false_iff]
        intro h
        have := (hs.1 h).1 i (by omega) (by omega)
        unfold triW W at this
        omega
      subst this
      exact Ev.now _
    · simp only [if_neg h0]
      have := ih (i + 1) (by omega) s (by
        rw [hs]
        constructor
        · exact fun h => ⟨fun b h1 h2 => h.1 b (by omega) h2, h.2⟩
        · refine fun h => ⟨fun b h1 h2 => ?_, h.2⟩
          by_cases h3 : b = i
          · subst h3
            unfold triW W
            omega
          · exact h.1 b (by omega) h2)
      rwa [show (((i + 1 : Nat) : Int)) = (i : Int) + 1 by omega] at this
theorem rmet_l1 (a : Nat) (ha : a < w.length) (r : Bool) (hr : Ev (fun k => haulierref27_Metric.l0 k w ((a : Int) + 1)) r) (d : Nat) : ∀ i : Nat, i + d = w.length → ∀ s : Bool, (s = true ↔ (∀ m, i ≤ m → m < w.length → ∀ b, b < w.length → triW w a m b) ∧ r = true) → Ev (fun k => haulierref27_Metric.l1 k w (a : Int) (i : Int)) s := by
  have hle := hv.le
  induction d with
  | zero =>
    intro i hi s hs
    have : s = r := by
      rw [Bool.eq_iff_iff, hs]
      exact ⟨fun h => h.2, fun h => ⟨fun b h1 h2 => by omega, h⟩⟩
    subst this
    refine ev_succ ?_
    simp only [haulierref27_Metric.l1, if_neg (show ¬ (i : Int) < (w.length : Int) by omega), w64 (x := (a : Int) + 1) (by omega) (by omega)]
    exact hr
  | succ d ih =>
    intro i hi s hs
    classical
    have h1 := ih (i + 1) (by omega) (decide ((∀ m, i + 1 ≤ m → m < w.length → ∀ b, b < w.length → triW w a m b) ∧ r = true)) decide_eq_true_iff
    rw [show (((i + 1 : Nat) : Int)) = (i : Int) + 1 by omega] at h1
    have h2 := rmet_l2 w hv a i ha (by omega) _ h1 w.length 0 (by omega) s (by
      rw [hs, decide_eq_true_iff]
      constructor
      · exact fun h => ⟨fun b _ h2 => h.1 i (by omega) (by omega) b h2, fun m h1 h2 => h.1 m (by omega) h2, h.2⟩
      · refine fun h => ⟨fun m h1 h2 b hb => ?_, h.2.2⟩
        by_cases h3 : m = i
        · subst h3
          exact h.1 b (by omega) hb
        · exact h.2.1 m (by omega) h2 b hb)
    refine ev_succ ?_
    simp only [haulierref27_Metric.l1, if_pos (show (i : Int) < (w.length : Int) by omega)]
    exact h2
theorem rmet_l0 (d : Nat) : ∀ i : Nat, i + d = w.length → ∀ s : Bool, (s = true ↔ (∀ a, i ≤ a → a < w.length → ∀ m, m < w.length → ∀ b, b < w.length → triW w a m b)) → Ev (fun k => haulierref27_Metric.l0 k w (i : Int)) s := by
  have hle := hv.le
  induction d with
  | zero =>
    intro i hi s hs
    have : s = true := by
      rw [hs]
      exact fun b h1 h2 => by omega
    subst this
    refine ev_succ ?_
    simp only [haulierref27_Metric.l0, if_neg (show ¬ (i : Int) < (w.length : Int) by omega)]
    exact Ev.now _
  | succ d ih =>
    intro i hi s hs
    classical
    have h1 := ih (i + 1) (by omega) (decide (∀ a, i + 1 ≤ a → a < w.length → ∀ m, m < w.length → ∀ b, b < w.length → triW w a m b)) decide_eq_true_iff
    rw [show (((i + 1 : Nat) : Int)) = (i : Int) + 1 by omega] at h1
    have h2 := rmet_l1 w hv i (by omega) _ h1 w.length 0 (by omega) s (by
      rw [hs, decide_eq_true_iff]
      constructor
      · exact fun h => ⟨fun m _ hm b h2 => h i (by omega) (by omega) m hm b h2, fun a h1 h2 => h a (by omega) h2⟩
      · refine fun h a h1 h2 m hm b hb => ?_
        by_cases h3 : a = i
        · subst h3
          exact h.1 m (by omega) hm b hb
        · exact h.2 a (by omega) h2 m hm b hb)
    refine ev_succ ?_
    simp only [haulierref27_Metric.l0, if_pos (show (i : Int) < (w.length : Int) by omega)]
    exact h2
end
open Classical in
noncomputable def metS (w : List (List Int)) : Bool := decide (VW w ∧ ∀ a, a < w.length → ∀ m, m < w.length → ∀ b, b < w.length → triW w a m b)
theorem met_f (w : List (List Int)) : Ev (fun k => chart_Metric.f k w) (metS w) := by
  classical
  unfold chart_Metric.f
  refine Ev.bind (places_f w [] (by simp)) ?_
  unfold plS
  by_cases h : (chkW w).2.2 = 0
  · have hv := (chkW_ok w).1 h
    simp only [if_pos h, List.not_mem_nil, false_implies, implies_true, if_true]
    refine met_l0 w hv w.length 0 (by omega) _ ?_
    simp [metS, hv]
  · have hv : ¬ VW w := fun h2 => h ((chkW_ok w).2 h2)
    simp only [if_neg h]
    rw [show metS w = false by simp [metS, hv]]
    exact Ev.now _
theorem rmet_f (w : List (List Int)) : Ev (fun k => haulierref27_Metric.f k w) (metS w) := by
  classical
  unfold haulierref27_Metric.f haulierref27_May.f
  have hm : Ev (fun k => (haulierref27_Check.f k w).bind fun bt205 => some (bt205.snd.snd == 0)) ((chkW w).2.2 == 0) := Ev.bind (refchk_f w) (Ev.now _)
  refine Ev.bind hm ?_
  by_cases h : (chkW w).2.2 = 0
  · have hv := (chkW_ok w).1 h
    simp only [beq_iff_eq, if_pos h]
    refine rmet_l0 w hv w.length 0 (by omega) _ ?_
    simp [metS, hv]
  · have hv : ¬ VW w := fun h2 => h ((chkW_ok w).2 h2)
    simp only [beq_iff_eq, if_neg h]
    rw [show metS w = false by simp [metS, hv]]
    exact Ev.now _

theorem place_f (w : List (List Int)) (a : Int) : haulierref27_Place.f w a = some (decide (0 ≤ a ∧ a < w.length)) := by
  unfold haulierref27_Place.f
  by_cases h : a ≥ 0
  · rw [if_pos h]
    simp [h]
  · rw [if_neg h]
    simp
    omega
theorem cc_j1 (w : List (List Int)) (hv : VW w) (a b : Int) (z : Bool) (hz : z = true ↔ ¬ (inW w a ∧ inW w b)) (h : (chkW w).2.2 = 0) : Ev (fun k => haulierlaw27_ChartChecks.j1 k w a b (wayS w a b).1 (wayS w a b).2 z) true := by
  refine ev_succ ?_
  unfold wayS
  simp only [haulierlaw27_ChartChecks.j1, if_pos h]
  by_cases h1 : z = true
  · have h2 := hz.1 h1
    simp only [if_pos h1, if_neg h2, if_true]
    exact Ev.bind chalive_f (Ev.now _)
  · have h2 : inW w a ∧ inW w b := Classical.byContradiction fun h3 => h1 (hz.2 h3)
    have hl : (rd_L1 w a).length = w.length := by
      have := hv.rows a.toNat (by have := h2.1.1; have := h2.1.2; omega)
      rwa [Int.toNat_of_nonneg h2.1.1] at this
    simp only [if_neg h1, if_pos h2, if_pos h2.1.1, if_pos h2.1.2, if_pos h2.2.1, hl, if_pos h2.2.2, if_true]
    exact Ev.bind chalive_f (Ev.now _)
theorem cc_j0 (w : List (List Int)) (a b : Int) : Ev (fun k => haulierlaw27_ChartChecks.j0 k w a b (chkW w).2.2 (wayS w a b).1 (wayS w a b).2 false) true := by
  refine ev_succ ?_
  simp only [haulierlaw27_ChartChecks.j0, if_neg (show ¬ false = true by simp)]
  by_cases h : (chkW w).2.2 = 0
  · have hv := (chkW_ok w).1 h
    simp only [if_pos h, place_f, Option.bind_some]
    by_cases h1 : 0 ≤ a ∧ a < (w.length : Int)
    · simp only [decide_eq_true h1, if_true]
      refine cc_j1 w hv a b _ ?_ h
      by_cases h2 : 0 ≤ b ∧ b < (w.length : Int)
      · simp [inW, h1, h2]
      · rw [decide_eq_false h2]
        simp only [Bool.not_false, true_iff, inW]
        exact fun h3 => h2 h3.2
    · simp only [decide_eq_false h1]
      refine cc_j1 w hv a b _ ?_ h
      simp only [true_iff, inW]
      exact fun h3 => h1 h3.1
  · simp only [if_neg h]
    have e1 : (wayS w a b).1 = 0 := by unfold wayS; rw [if_neg h]
    have e2 : (wayS w a b).2 = (chkW w).2.2 := by unfold wayS; rw [if_neg h]
    simp only [e1, e2, if_true]
    exact Ev.bind chalive_f (Ev.now _)
theorem ChartChecks : haulierlaw27_ChartChecks.Pure := by
  intro w a b hw _ _ _
  refine Ev.rounds ?_
  unfold haulierlaw27_ChartChecks.f
  refine Ev.bind (light_f w hw 210) ?_
  by_cases hL : lightS w 210 = true
  · simp only [if_pos hL]
    refine Ev.bind (check_f w) (Ev.bind (refchk_f w) (Ev.bind (way_f w a b) ?_))
    simp only [if_true]
    refine Ev.bind (met_f w) (Ev.bind (rmet_f w) ?_)
    simp only [bne_self_eq_false]
    exact cc_j0 w a b
  · simp only [if_neg hL]
    exact Ev.bind chalive_f (Ev.now _)


end Go.Proofs.Ytecncfnbeocneaa.Pure
