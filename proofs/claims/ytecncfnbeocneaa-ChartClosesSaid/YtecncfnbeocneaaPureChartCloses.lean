/- ChartCloses: the closed ways of any ways, and the shortest path between any two places, is as the document says, or the error; for all rows and numbers that the given statement's guards let in. -/
import Derived.Test.YtecncfnbeocneaaMChartClosesx10
set_option linter.unusedVariables false
set_option linter.unusedSimpArgs false
namespace Go.Proofs.Ytecncfnbeocneaa.Pure
open Go.RowKit Go.Proofs.Ytecncfnbeocneaa.MChartCloses Go.Proofs.YtecncfnbeocneaaW.PrintWords Go.Proofs.YtecncfnbeocneaaW.PrintLast

theorem w64 {x : Int} (h0 : -9223372036854775808 ≤ x) (h1 : x ≤ 9223372036854775807) : wrap64 x = x := by
  unfold wrap64
  omega
theorem tmod_nn {a : Int} (h : 0 ≤ a) (b : Int) : Int.tmod a b = a % b := by
  rw [Int.tmod_eq_emod_of_nonneg h]
theorem tdiv_nn {a : Int} (h : 0 ≤ a) (b : Int) : Int.tdiv a b = a / b := by
  rw [Int.tdiv_eq_ediv_of_nonneg h]
theorem ev_succ {α : Type} {g : Nat → Option α} {r : α} (h : Ev (fun k => g (k + 1)) r) : Ev g r := by
  obtain ⟨K, h⟩ := h
  refine ⟨K + 1, fun n hn => ?_⟩
  obtain ⟨m, rfl⟩ : ∃ m, n = m + 1 := ⟨n - 1, by omega⟩
  exact h m (by omega)

def IR (x : Int) : Prop := -9223372036854775808 ≤ x ∧ x ≤ 9223372036854775807
theorem ir_of {x : Int} (h : (Lit.int .i64 x).wf = true) : IR x := by simpa [IR, Lit.wf, IntKind.min, IntKind.max, IntKind.signed, IntKind.bits] using h
theorem rd_drop (xs : List Int) (i : Nat) (h : i < xs.length) : xs.drop i = rd xs (i : Int) :: xs.drop (i + 1) := by
  rw [List.drop_eq_getElem_cons h]
  simp [rd, h]
theorem rd_mem (xs : List Int) (i : Nat) (h : i < xs.length) : rd xs (i : Int) ∈ xs := by
  simp [rd, h]

theorem rdL_drop (xs : List (List Int)) (i : Nat) (h : i < xs.length) : xs.drop i = rd_L1 xs (i : Int) :: xs.drop (i + 1) := by
  rw [List.drop_eq_getElem_cons h]
  simp [rd_L1, h]
theorem rdL_mem (xs : List (List Int)) (i : Nat) (h : i < xs.length) : rd_L1 xs (i : Int) ∈ xs := by simp [rd_L1, h]
def lightB (m : Int) (l : List (List Int)) : Bool := l.all fun x => decide ((x.length : Int) ≤ m)
theorem light_l0 (m : Int) (l : List (List Int)) (hl : l.length ≤ maxLen) (d : Nat) : ∀ i : Nat, i + d = l.length → Ev (fun k => haulierlaw27_Light.l0 k m l (l.length : Int) (i : Int)) (lightB m (l.drop i)) := by
  unfold maxLen at hl
  induction d with
  | zero =>
    intro i hi
    rw [List.drop_of_length_le (by omega)]
    refine ev_succ ?_
    simp only [haulierlaw27_Light.l0, if_neg (show ¬ (i : Int) < (l.length : Int) by omega)]
    exact Ev.now _
  | succ d ih =>
    intro i hi
    rw [rdL_drop l i (by omega)]
    have h := ih (i + 1) (by omega)
    rw [show (((i + 1 : Nat) : Int)) = (i : Int) + 1 by omega] at h
    refine ev_succ ?_
    simp only [haulierlaw27_Light.l0, lightB, List.all_cons, if_pos (show (i : Int) < (l.length : Int) by omega), if_pos (show (0 : Int) ≤ (i : Int) by omega), w64 (x := (i : Int) + 1) (by omega) (by omega)]
    by_cases h0 : ((rd_L1 l (i : Int)).length : Int) > m
    · simp only [if_pos h0]
      rw [decide_eq_false (by omega), Bool.false_and]
      exact Ev.now _
    · simp only [if_neg h0]
      rw [decide_eq_true (by omega), Bool.true_and]
      exact h
def lightS (l : List (List Int)) (m : Int) : Bool := decide ((l.length : Int) ≤ m) && lightB m l
theorem light_f (l : List (List Int)) (hl : l.length ≤ maxLen) (m : Int) : Ev (fun k => haulierlaw27_Light.f k l m) (lightS l m) := by
  unfold haulierlaw27_Light.f lightS
  by_cases h : (l.length : Int) > m
  · simp only [if_pos h]
    rw [decide_eq_false (by omega), Bool.false_and]
    exact Ev.now _
  · simp only [if_neg h]
    rw [decide_eq_true (by omega), Bool.true_and]
    exact light_l0 m l hl l.length 0 (by omega)
def rowS (r : Int) : Int → List Int → Int × Int
  | _, [] => (0, 0)
  | c, m :: l => if m < 0 ∨ m > 10080 then (c, 4) else if c = r ∧ m ≠ 0 then (c, 1) else rowS r (c + 1) l
def chkRows (n : Nat) : Int → List (List Int) → Int × Int × Int
  | _, [] => (0, 0, 0)
  | r, l :: ls => if l.length ≠ n then (r, 0, 18) else if (rowS r 0 l).2 ≠ 0 then (r, (rowS r 0 l).1, (rowS r 0 l).2) else chkRows n (r + 1) ls
def chkW (w : List (List Int)) : Int × Int × Int := if w.length = 0 then (0, 0, 13) else if w.length > 200 then (0, 0, 12) else chkRows w.length 0 w
theorem row_l0 (r : Int) (l : List Int) (hl : l.length ≤ 1000) (d : Nat) : ∀ i : Nat, i + d = l.length → Ev (fun k => chart_row.l0 k r l (l.length : Int) (i : Int)) (rowS r i (l.drop i)) := by
  induction d with
  | zero =>
    intro i hi
    rw [List.drop_of_length_le (by omega)]
    refine ev_succ ?_
    simp only [chart_row.l0, if_neg (show ¬ (i : Int) < (l.length : Int) by omega)]
    exact Ev.now _
  | succ d ih =>
    intro i hi
    rw [rd_drop l i (by omega)]
    have h := ih (i + 1) (by omega)
    rw [show (((i + 1 : Nat) : Int)) = (i : Int) + 1 by omega] at h
    have hj : ∀ z : Bool, (z = true ↔ rd l (i : Int) < 0 ∨ rd l (i : Int) > 10080) → Ev (fun k => chart_row.j1 k r (i : Int) (rd l (i : Int)) l (l.length : Int) (i : Int) z) (rowS r i (rd l (i : Int) :: l.drop (i + 1))) := by
      intro z hz
      refine ev_succ ?_
      simp only [chart_row.j1, rowS, w64 (x := (i : Int) + 1) (by omega) (by omega)]
      by_cases hzt : z = true
      · simp only [if_pos hzt, if_pos (hz.1 hzt)]
        exact Ev.now _
      · have hz' : ¬ (rd l (i : Int) < 0 ∨ rd l (i : Int) > 10080) := fun h => hzt (hz.2 h)
        simp only [if_neg hzt, if_neg hz']
        by_cases h1 : (i : Int) = r
        · by_cases h2 : rd l (i : Int) = 0
          · simp only [if_pos h1, if_pos h2, if_neg (show ¬ ((i : Int) = r ∧ rd l (i : Int) ≠ 0) from fun h => h.2 h2)]
            exact h
          · simp only [if_pos h1, if_neg h2, if_pos (show (i : Int) = r ∧ rd l (i : Int) ≠ 0 from ⟨h1, h2⟩)]
            exact Ev.now _
        · simp only [if_neg h1, if_neg (show ¬ ((i : Int) = r ∧ rd l (i : Int) ≠ 0) from fun h => h1 h.1)]
          exact h
    refine ev_succ ?_
    simp only [chart_row.l0, if_pos (show (i : Int) < (l.length : Int) by omega), if_pos (show (0 : Int) ≤ (i : Int) by omega)]
    by_cases h0 : rd l (i : Int) < 0
    · simp only [if_pos h0]
      exact hj _ (by simp [h0])
    · simp only [if_neg h0]
      exact hj _ (by simp; omega)
theorem row_f (l : List Int) (r : Int) (n : Nat) (hn : n ≤ 1000) : Ev (fun k => chart_row.f k l r (n : Int)) (if l.length ≠ n then (0, 18) else rowS r 0 l) := by
  unfold chart_row.f
  by_cases h : l.length = n
  · simp only [if_pos (show (l.length : Int) = (n : Int) by omega), h, ne_eq, not_true, if_false]
    have := row_l0 r l (by omega) l.length 0 (by omega)
    rw [h] at this
    simpa using this
  · simp only [if_neg (show ¬ (l.length : Int) = (n : Int) by omega), ne_eq, h, not_false_eq_true, if_true]
    exact Ev.now _
theorem check_l0 (w : List (List Int)) (hw : w.length ≤ 200) (d : Nat) : ∀ i : Nat, i + d = w.length → Ev (fun k => chart_Check.l0 k w w (w.length : Int) (i : Int)) (chkRows w.length i (w.drop i)) := by
  induction d with
  | zero =>
    intro i hi
    rw [List.drop_of_length_le (by omega)]
    refine ev_succ ?_
    simp only [chart_Check.l0, if_neg (show ¬ (i : Int) < (w.length : Int) by omega)]
    exact Ev.now _
  | succ d ih =>
    intro i hi
    rw [rdL_drop w i (by omega)]
    have h := ih (i + 1) (by omega)
    rw [show (((i + 1 : Nat) : Int)) = (i : Int) + 1 by omega] at h
    refine ev_succ ?_
    simp only [chart_Check.l0, chkRows, if_pos (show (i : Int) < (w.length : Int) by omega), if_pos (show (0 : Int) ≤ (i : Int) by omega), w64 (x := (i : Int) + 1) (by omega) (by omega)]
    refine Ev.bind (row_f _ _ _ (by omega)) ?_
    by_cases h0 : (rd_L1 w (i : Int)).length ≠ w.length
    · simp only [if_pos h0, if_neg (show ¬ (18 : Int) = 0 by omega)]
      exact Ev.now _
    · simp only [if_neg h0]
      by_cases h1 : (rowS (i : Int) 0 (rd_L1 w (i : Int))).2 = 0
      · simp only [if_pos h1, ne_eq, h1, not_true, if_false]
        exact h
      · simp only [if_neg h1, ne_eq, h1, not_false_eq_true, if_true]
        exact Ev.now _
theorem check_f (w : List (List Int)) : Ev (fun k => chart_Check.f k w) (chkW w) := by
  unfold chart_Check.f chkW
  by_cases h : w.length = 0
  · simp only [if_pos (show (w.length : Int) = 0 by omega), if_pos h]
    exact Ev.now _
  · simp only [if_neg (show ¬ (w.length : Int) = 0 by omega), if_neg h]
    by_cases h2 : w.length > 200
    · simp only [if_pos (show (w.length : Int) > 200 by omega), if_pos h2]
      exact Ev.now _
    · simp only [if_neg (show ¬ (w.length : Int) > 200 by omega), if_neg h2]
      exact check_l0 w (by omega) w.length 0 (by omega)
def W (w : List (List Int)) (a b : Nat) : Int := rd (rd_L1 w (a : Int)) (b : Int)
structure VW (w : List (List Int)) : Prop where
  pos : 0 < w.length
  le : w.length ≤ 200
  rows : ∀ a, a < w.length → (rd_L1 w (a : Int)).length = w.length
  lo : ∀ a b, a < w.length → b < w.length → 0 ≤ W w a b
  hi : ∀ a b, a < w.length → b < w.length → W w a b ≤ 10080
  diag : ∀ a, a < w.length → W w a a = 0
theorem rowS_ok (r : Int) (l : List Int) : ∀ c : Int, (rowS r c l).2 = 0 ↔ ∀ i : Nat, i < l.length → 0 ≤ rd l (i : Int) ∧ rd l (i : Int) ≤ 10080 ∧ (c + i = r → rd l (i : Int) = 0) := by
  induction l with
  | nil => intro c; simp [rowS]
  | cons m l ih =>
    intro c
    simp only [rowS]
    have hs : (∀ i : Nat, i < (m :: l).length → 0 ≤ rd (m :: l) (i : Int) ∧ rd (m :: l) (i : Int) ≤ 10080 ∧ (c + i = r → rd (m :: l) (i : Int) = 0)) ↔ (0 ≤ m ∧ m ≤ 10080 ∧ (c = r → m = 0)) ∧ ∀ i : Nat, i < l.length → 0 ≤ rd l (i : Int) ∧ rd l (i : Int) ≤ 10080 ∧ (c + 1 + i = r → rd l (i : Int) = 0) := by
      constructor
      · intro h
        refine ⟨?_, fun i hi => ?_⟩
        · have := h 0 (by simp)
          simpa [rd] using this
        · have := h (i + 1) (by simp; omega)
          simp only [rd, Int.toNat_natCast, List.getD_cons_succ] at this ⊢
          exact ⟨this.1, this.2.1, fun h => this.2.2 (by omega)⟩
      · rintro ⟨h0, h⟩ i hi
        cases i with
        | zero => simpa [rd] using h0
        | succ i =>
          have := h i (by simpa using hi)
          simp only [rd, Int.toNat_natCast, List.getD_cons_succ] at this ⊢
          exact ⟨this.1, this.2.1, fun h => this.2.2 (by omega)⟩
    rw [hs, ← ih]
    by_cases h1 : m < 0 ∨ m > 10080
    · rw [if_pos h1]
      simp
      omega
    · rw [if_neg h1]
      by_cases h2 : c = r ∧ m ≠ 0
      · rw [if_pos h2]
        simp
        intro _ _ h
        exact absurd (h h2.1) h2.2
      · rw [if_neg h2]
        constructor
        · intro h
          refine ⟨⟨by omega, by omega, fun h3 => ?_⟩, h⟩
          by_cases h4 : m = 0
          · exact h4
          · exact absurd ⟨h3, h4⟩ h2
        · exact fun h => h.2
theorem chkRows_ok (n : Nat) (ls : List (List Int)) : ∀ r : Int, (chkRows n r ls).2.2 = 0 ↔ ∀ a : Nat, a < ls.length → (rd_L1 ls (a : Int)).length = n ∧ (rowS (r + a) 0 (rd_L1 ls (a : Int))).2 = 0 := by
  induction ls with
  | nil => intro r; simp [chkRows]
  | cons l ls ih =>
    intro r
    simp only [chkRows]
    have hs : (∀ a : Nat, a < (l :: ls).length → (rd_L1 (l :: ls) (a : Int)).length = n ∧ (rowS (r + a) 0 (rd_L1 (l :: ls) (a : Int))).2 = 0) ↔ (l.length = n ∧ (rowS r 0 l).2 = 0) ∧ ∀ a : Nat, a < ls.length → (rd_L1 ls (a : Int)).length = n ∧ (rowS (r + 1 + a) 0 (rd_L1 ls (a : Int))).2 = 0 := by
      constructor
      · intro h
        refine ⟨by simpa [rd_L1] using h 0 (by simp), fun a ha => ?_⟩
        have := h (a + 1) (by simp; omega)
        simp only [rd_L1, Int.toNat_natCast, List.getD_cons_succ] at this ⊢
        rw [show r + 1 + (a : Int) = r + ((a + 1 : Nat) : Int) by omega]
        exact this
      · rintro ⟨h0, h⟩ a ha
        cases a with
        | zero => simpa [rd_L1] using h0
        | succ a =>
          have := h a (by simpa using ha)
          simp only [rd_L1, Int.toNat_natCast, List.getD_cons_succ] at this ⊢
          rw [show r + ((a + 1 : Nat) : Int) = r + 1 + (a : Int) by omega]
          exact this
    rw [hs, ← ih]
    by_cases h1 : l.length = n
    · rw [if_neg (by simp [h1])]
      by_cases h2 : (rowS r 0 l).2 = 0
      · rw [if_neg (by simp [h2])]
        simp [h1, h2]
      · rw [if_pos h2]
        simp [h2]
    · rw [if_pos h1]
      simp [h1]
theorem chkW_ok (w : List (List Int)) : (chkW w).2.2 = 0 ↔ VW w := by
  unfold chkW
  by_cases h : w.length = 0
  · rw [if_pos h]
    simp
    intro hv
    have := hv.pos
    omega
  · rw [if_neg h]
    by_cases h2 : w.length > 200
    · rw [if_pos h2]
      simp
      intro hv
      have := hv.le
      omega
    · rw [if_neg h2, chkRows_ok]
      constructor
      · intro h3
        have h4 : ∀ a b : Nat, a < w.length → b < w.length → 0 ≤ W w a b ∧ W w a b ≤ 10080 ∧ (a = b → W w a b = 0) := by
          intro a b ha hb
          obtain ⟨h5, h6⟩ := h3 a ha
          have := (rowS_ok _ _ _).1 h6 b (by omega)
          exact ⟨this.1, this.2.1, fun e => this.2.2 (by omega)⟩
        exact ⟨by omega, by omega, fun a ha => (h3 a ha).1, fun a b ha hb => (h4 a b ha hb).1, fun a b ha hb => (h4 a b ha hb).2.1, fun a ha => (h4 a a ha ha).2.2 rfl⟩
      · intro hv a ha
        refine ⟨hv.rows a ha, (rowS_ok _ _ _).2 fun i hi => ?_⟩
        rw [hv.rows a ha] at hi
        refine ⟨hv.lo a i ha hi, hv.hi a i ha hi, fun e => ?_⟩
        have : i = a := by omega
        subst this
        exact hv.diag i ha
def plS (w : List (List Int)) (l : List Int) : Int := if (chkW w).2.2 = 0 then (if ∀ a ∈ l, 0 ≤ a ∧ a < w.length then 0 else 10) else (chkW w).2.2
theorem places_l0 (w : List (List Int)) (l : List Int) (hl : l.length ≤ 2000000) (d : Nat) : ∀ i : Nat, i + d = l.length → Ev (fun k => chart_places.l0 k w l (l.length : Int) (i : Int)) (if ∀ a ∈ l.drop i, 0 ≤ a ∧ a < w.length then 0 else 10) := by
  induction d with
  | zero =>
    intro i hi
    rw [List.drop_of_length_le (by omega)]
    refine ev_succ ?_
    simp only [chart_places.l0, if_neg (show ¬ (i : Int) < (l.length : Int) by omega)]
    rw [if_pos (by simp)]
    exact Ev.now _
  | succ d ih =>
    intro i hi
    rw [rd_drop l i (by omega)]
    have h := ih (i + 1) (by omega)
    rw [show (((i + 1 : Nat) : Int)) = (i : Int) + 1 by omega] at h
    refine ev_succ ?_
    simp only [chart_places.l0, if_pos (show (i : Int) < (l.length : Int) by omega), if_pos (show (0 : Int) ≤ (i : Int) by omega), w64 (x := (i : Int) + 1) (by omega) (by omega)]
    by_cases h0 : rd l (i : Int) < 0
    · simp only [if_pos h0]
      rw [if_neg (by intro h2; have := h2 _ List.mem_cons_self; omega)]
      exact Ev.now _
    · by_cases h1 : rd l (i : Int) ≥ (w.length : Int)
      · simp only [if_neg h0, if_pos h1]
        rw [if_neg (by intro h2; have := h2 _ List.mem_cons_self; omega)]
        exact Ev.now _
      · simp only [if_neg h0, if_neg h1]
        by_cases h2 : ∀ a ∈ l.drop (i + 1), 0 ≤ a ∧ a < (w.length : Int)
        · rw [if_pos h2] at h
          rw [if_pos (by rw [List.forall_mem_cons]; exact ⟨by omega, h2⟩)]
          exact h
        · rw [if_neg h2] at h
          rw [if_neg (by rw [List.forall_mem_cons]; exact fun h3 => h2 h3.2)]
          exact h
theorem places_f (w : List (List Int)) (l : List Int) (hl : l.length ≤ 2000000) : Ev (fun k => chart_places.f k w l) (plS w l) := by
  unfold chart_places.f plS
  refine Ev.bind (check_f w) ?_
  by_cases h : (chkW w).2.2 = 0
  · simp only [if_pos h]
    exact places_l0 w l hl l.length 0 (by omega)
  · simp only [if_neg h]
    exact Ev.now _
theorem chalive_f : Ev (fun k => haulierlaw27_alive.f k) true := by
  refine Ev.of (k := 60) haulierlaw27_alive.mono ?_
  decide +kernel

theorem refchk_l1 (w : List (List Int)) (hw : w.length ≤ 200) (r : Nat) (hr : r < w.length) (hl : (rd_L1 w (r : Int)).length = w.length) (R : Int × Int × Int) (hR : Ev (fun k => haulierref27_Check.l0 k w ((r : Int) + 1)) R) (d : Nat) : ∀ i : Nat, i + d = w.length → Ev (fun k => haulierref27_Check.l1 k w (r : Int) (i : Int)) (if (rowS (r : Int) i ((rd_L1 w (r : Int)).drop i)).2 ≠ 0 then ((r : Int), (rowS (r : Int) i ((rd_L1 w (r : Int)).drop i)).1, (rowS (r : Int) i ((rd_L1 w (r : Int)).drop i)).2) else R) := by
  induction d with
  | zero =>
    intro i hi
    rw [List.drop_of_length_le (by omega)]
    refine ev_succ ?_
    simp only [haulierref27_Check.l1, if_neg (show ¬ (i : Int) < (w.length : Int) by omega), w64 (x := (r : Int) + 1) (by omega) (by omega)]
    simpa [rowS] using hR
  | succ d ih =>
    intro i hi
    rw [rd_drop (rd_L1 w (r : Int)) i (by omega)]
    have h := ih (i + 1) (by omega)
    rw [show (((i + 1 : Nat) : Int)) = (i : Int) + 1 by omega] at h
    have hj : ∀ z : Bool, (z = true ↔ rd (rd_L1 w (r : Int)) (i : Int) < 0 ∨ rd (rd_L1 w (r : Int)) (i : Int) > 10080) → Ev (fun k => haulierref27_Check.j2 k w (r : Int) (i : Int) z) (if (rowS (r : Int) i (rd (rd_L1 w (r : Int)) (i : Int) :: (rd_L1 w (r : Int)).drop (i + 1))).2 ≠ 0 then ((r : Int), (rowS (r : Int) i (rd (rd_L1 w (r : Int)) (i : Int) :: (rd_L1 w (r : Int)).drop (i + 1))).1, (rowS (r : Int) i (rd (rd_L1 w (r : Int)) (i : Int) :: (rd_L1 w (r : Int)).drop (i + 1))).2) else R) := by
      intro z hz
      refine ev_succ ?_
      simp only [haulierref27_Check.j2, rowS, w64 (x := (i : Int) + 1) (by omega) (by omega), if_pos (show (0 : Int) ≤ (i : Int) by omega), if_pos (show (0 : Int) ≤ (r : Int) by omega), if_pos (show (r : Int) < (w.length : Int) by omega), if_pos (show (i : Int) < ((rd_L1 w (r : Int)).length : Int) by omega)]
      by_cases hzt : z = true
      · simp only [if_pos hzt, if_pos (hz.1 hzt)]
        exact Ev.now _
      · have hz' : ¬ (rd (rd_L1 w (r : Int)) (i : Int) < 0 ∨ rd (rd_L1 w (r : Int)) (i : Int) > 10080) := fun h => hzt (hz.2 h)
        simp only [if_neg hzt, if_neg hz']
        by_cases h1 : (r : Int) = i
        · by_cases h2 : rd (rd_L1 w (r : Int)) (i : Int) = 0
          · simp only [if_pos h1, if_pos h2, if_neg (show ¬ ((i : Int) = r ∧ rd (rd_L1 w (r : Int)) (i : Int) ≠ 0) from fun h => h.2 h2)]
            exact h
          · simp only [if_pos h1, if_neg h2, if_pos (show (i : Int) = r ∧ rd (rd_L1 w (r : Int)) (i : Int) ≠ 0 from ⟨h1.symm, h2⟩)]
            exact Ev.now _
        · simp only [if_neg h1, if_neg (show ¬ ((i : Int) = r ∧ rd (rd_L1 w (r : Int)) (i : Int) ≠ 0) from fun h => h1 h.1.symm)]
          exact h
    refine ev_succ ?_
    simp only [haulierref27_Check.l1, if_pos (show (i : Int) < (w.length : Int) by omega), if_pos (show (0 : Int) ≤ (i : Int) by omega), if_pos (show (0 : Int) ≤ (r : Int) by omega), if_pos (show (r : Int) < (w.length : Int) by omega), if_pos (show (i : Int) < ((rd_L1 w (r : Int)).length : Int) by omega)]
    by_cases h0 : rd (rd_L1 w (r : Int)) (i : Int) < 0
    · simp only [if_pos h0]
      exact hj _ (by simp [h0])
    · simp only [if_neg h0]
      exact hj _ (by simp; omega)
theorem refchk_l0 (w : List (List Int)) (hw : w.length ≤ 200) (d : Nat) : ∀ i : Nat, i + d = w.length → Ev (fun k => haulierref27_Check.l0 k w (i : Int)) (chkRows w.length i (w.drop i)) := by
  induction d with
  | zero =>
    intro i hi
    rw [List.drop_of_length_le (by omega)]
    refine ev_succ ?_
    simp only [haulierref27_Check.l0, if_neg (show ¬ (i : Int) < (w.length : Int) by omega)]
    exact Ev.now _
  | succ d ih =>
    intro i hi
    rw [rdL_drop w i (by omega)]
    have h := ih (i + 1) (by omega)
    rw [show (((i + 1 : Nat) : Int)) = (i : Int) + 1 by omega] at h
    refine ev_succ ?_
    simp only [haulierref27_Check.l0, chkRows, if_pos (show (i : Int) < (w.length : Int) by omega), if_pos (show (0 : Int) ≤ (i : Int) by omega)]
    by_cases h0 : (rd_L1 w (i : Int)).length = w.length
    · simp only [if_pos (show ((rd_L1 w (i : Int)).length : Int) = (w.length : Int) by omega), if_neg (show ¬ (rd_L1 w (i : Int)).length ≠ w.length by omega)]
      have := refchk_l1 w hw i (by omega) h0 _ h w.length 0 (by omega)
      simpa using this
    · simp only [if_neg (show ¬ ((rd_L1 w (i : Int)).length : Int) = (w.length : Int) by omega), if_pos (show (rd_L1 w (i : Int)).length ≠ w.length by omega)]
      exact Ev.now _
theorem refchk_f (w : List (List Int)) : Ev (fun k => haulierref27_Check.f k w) (chkW w) := by
  unfold haulierref27_Check.f chkW
  by_cases h : w.length = 0
  · simp only [if_pos (show (w.length : Int) = 0 by omega), if_pos h]
    exact Ev.now _
  · simp only [if_neg (show ¬ (w.length : Int) = 0 by omega), if_neg h]
    by_cases h2 : w.length > 200
    · simp only [if_pos (show (w.length : Int) > 200 by omega), if_pos h2]
      exact Ev.now _
    · simp only [if_neg (show ¬ (w.length : Int) > 200 by omega), if_neg h2]
      exact refchk_l0 w (by omega) w.length 0 (by omega)

theorem W_hi (w : List (List Int)) (hv : VW w) (a b : Nat) (ha : a < w.length) (hb : b < w.length) : 0 ≤ rd (rd_L1 w (a : Int)) (b : Int) ∧ rd (rd_L1 w (a : Int)) (b : Int) ≤ 10080 := ⟨hv.lo a b ha hb, hv.hi a b ha hb⟩

def inL (w : List (List Int)) (l : List Int) : Prop := ∀ a ∈ l, 0 ≤ a ∧ a < (w.length : Int)
def sumL (w : List (List Int)) : List Int → Int
  | [] => 0
  | [_] => 0
  | a :: b :: t => rd (rd_L1 w a) b + sumL w (b :: t)
theorem sumL_cut (w : List (List Int)) (l : List Int) : ∀ c : Nat, c < l.length → sumL w (l.take (c + 1)) + sumL w (l.drop c) = sumL w l := by
  induction l with
  | nil => intro c hc; simp at hc
  | cons a t ih =>
    intro c hc
    cases c with
    | zero => simp [sumL]
    | succ c =>
      cases t with
      | nil => simp at hc
      | cons b t =>
        have := ih c (by simpa using hc)
        simp only [List.take_succ_cons, List.drop_succ_cons, sumL] at this ⊢
        omega
theorem rdW (w : List (List Int)) (hv : VW w) (a b : Int) (ha : 0 ≤ a ∧ a < w.length) (hb : 0 ≤ b ∧ b < w.length) : 0 ≤ rd (rd_L1 w a) b ∧ rd (rd_L1 w a) b ≤ 10080 ∧ (rd_L1 w a).length = w.length := by
  have h1 := W_hi w hv a.toNat b.toNat (by omega) (by omega)
  have h2 := hv.rows a.toNat (by omega)
  rw [Int.toNat_of_nonneg ha.1] at h1 h2
  rw [Int.toNat_of_nonneg hb.1] at h1
  exact ⟨h1.1, h1.2, h2⟩
theorem sumL_pos (w : List (List Int)) (hv : VW w) (l : List Int) (h : inL w l) : 0 ≤ sumL w l ∧ sumL w l ≤ 10080 * l.length := by
  induction l with
  | nil => simp [sumL]
  | cons a t ih =>
    cases t with
    | nil => simp [sumL]
    | cons b t =>
      have h1 := ih (fun x hx => h x (List.mem_cons_of_mem _ hx))
      have h2 := rdW w hv a b (h a (by simp)) (h b (by simp))
      simp only [sumL, List.length_cons] at h1 ⊢
      omega
open Classical in
noncomputable def lenS (w : List (List Int)) (l : List Int) : Int × Int := if (chkW w).2.2 = 0 then (if inL w l then (sumL w l, 0) else (0, 10)) else (0, (chkW w).2.2)
theorem drop2 (w : List (List Int)) (l : List Int) (i : Nat) (h : i + 1 < l.length) : sumL w (l.drop i) = rd (rd_L1 w (rd l (i : Int))) (rd l ((i : Int) + 1)) + sumL w (l.drop (i + 1)) := by
  have e : ((i : Int) + 1) = ((i + 1 : Nat) : Int) := by omega
  rw [rd_drop l i (by omega), rd_drop l (i + 1) h, e]
  rfl
theorem drop1 (w : List (List Int)) (l : List Int) (i : Nat) (h : l.length ≤ i + 1) : sumL w (l.drop i) = 0 := by
  by_cases h2 : i < l.length
  · rw [rd_drop l i h2, List.drop_of_length_le (by omega)]
    rfl
  · rw [List.drop_of_length_le (by omega)]
    rfl
theorem plS_inL (w : List (List Int)) (l : List Int) (h : (chkW w).2.2 = 0) (hi : inL w l) : plS w l = 0 := by
  unfold plS
  rw [if_pos h, if_pos (show ∀ a ∈ l, 0 ≤ a ∧ a < (w.length : Int) from hi)]

def lle (p q : Int × Int) : Prop := p.1 < q.1 ∨ (p.1 = q.1 ∧ p.2 ≤ q.2)
def lxB (p q : Int × Int) : Bool := decide (p.1 < q.1) || (decide (p.1 = q.1) && decide (p.2 < q.2))
def ad (p q : Int × Int) : Int × Int := (p.1 + q.1, p.2 + q.2)
theorem lle_refl (p : Int × Int) : lle p p := Or.inr ⟨rfl, Int.le_refl _⟩
theorem lle_trans {p q r : Int × Int} (h1 : lle p q) (h2 : lle q r) : lle p r := by unfold lle at *; omega
theorem lle_ad {p p' q q' : Int × Int} (h1 : lle p p') (h2 : lle q q') : lle (ad p q) (ad p' q') := by unfold lle ad at *; simp only; omega
theorem lxB_t {p q : Int × Int} : lxB p q = true ↔ p.1 < q.1 ∨ (p.1 = q.1 ∧ p.2 < q.2) := by simp [lxB]
theorem lle_antisymm {p q : Int × Int} (h1 : lle p q) (h2 : lle q p) : p = q := by
  unfold lle at *
  exact Prod.ext (by omega) (by omega)
def upd (c : Nat) (D : Nat → Nat → Int × Int) (a b : Nat) : Int × Int := if lxB (ad (D a c) (D c b)) (D a b) = true then ad (D a c) (D c b) else D a b
def D0 (w : List (List Int)) (a b : Nat) : Int × Int := if a = b then (0, 0) else (W w a b, 1)
def FW (w : List (List Int)) : Nat → Nat → Nat → Int × Int
  | 0 => D0 w
  | c + 1 => upd c (FW w c)
theorem upd_le (c : Nat) (D : Nat → Nat → Int × Int) (a b : Nat) : lle (upd c D a b) (D a b) ∧ lle (upd c D a b) (ad (D a c) (D c b)) := by
  unfold upd
  by_cases h : lxB (ad (D a c) (D c b)) (D a b) = true
  · rw [if_pos h]
    rw [lxB_t] at h
    exact ⟨by unfold lle; omega, lle_refl _⟩
  · rw [if_neg h]
    rw [lxB_t] at h
    exact ⟨lle_refl _, by unfold lle; omega⟩
theorem upd_or (c : Nat) (D : Nat → Nat → Int × Int) (a b : Nat) : upd c D a b = D a b ∨ upd c D a b = ad (D a c) (D c b) := by
  unfold upd
  split
  · exact Or.inr rfl
  · exact Or.inl rfl
theorem upd_col (c : Nat) (D : Nat → Nat → Int × Int) (h : D c c = (0, 0)) (a : Nat) : upd c D a c = D a c := by
  unfold upd
  rw [if_neg (by rw [lxB_t, h]; unfold ad; simp only; omega)]
theorem upd_row (c : Nat) (D : Nat → Nat → Int × Int) (h : D c c = (0, 0)) (b : Nat) : upd c D c b = D c b := by
  unfold upd
  rw [if_neg (by rw [lxB_t, h]; unfold ad; simp only; omega)]
inductive Pth (w : List (List Int)) : Nat → Nat → Int → Int → Prop
  | nil (a : Nat) (h : a < w.length) : Pth w a a 0 0
  | cons (a x b : Nat) (L S : Int) (ha : a < w.length) (hx : x < w.length) (h : Pth w x b L S) : Pth w a b (W w a x + L) (1 + S)
theorem Pth.app {w : List (List Int)} {a c : Nat} {L S : Int} (h : Pth w a c L S) : ∀ {b : Nat} {L' S' : Int}, Pth w c b L' S' → Pth w a b (L + L') (S + S') := by
  induction h with
  | nil a h => intro b L' S' h2; simpa using h2
  | cons a x c L S ha hx _ ih =>
    intro b L' S' h2
    have := Pth.cons a x b _ _ ha hx (ih h2)
    rw [← Int.add_assoc, ← Int.add_assoc] at this
    exact this
structure Inv (w : List (List Int)) (c : Nat) (D : Nat → Nat → Int × Int) : Prop where
  diag : ∀ a, a < w.length → D a a = (0, 0)
  nn : ∀ a b, a < w.length → b < w.length → 0 ≤ (D a b).1 ∧ 0 ≤ (D a b).2
  edge : ∀ a b, a < w.length → b < w.length → lle (D a b) (W w a b, 1)
  hi : ∀ a b, a < w.length → b < w.length → (D a b).1 ≤ 10080 ∧ (D a b).2 ≤ 2 ^ c
  pos : ∀ a b, a < w.length → b < w.length → a ≠ b → 1 ≤ (D a b).2
  tri : ∀ k a b, k < c → k < w.length → a < w.length → b < w.length → lle (D a b) (ad (D a k) (D k b))
  real : ∀ a b, a < w.length → b < w.length → Pth w a b (D a b).1 (D a b).2
theorem inv0 (w : List (List Int)) (hv : VW w) : Inv w 0 (D0 w) := by
  have key : ∀ a b, a < w.length → b < w.length → (a = b ∧ D0 w a b = (0, 0) ∧ W w a b = 0) ∨ (a ≠ b ∧ D0 w a b = (W w a b, 1)) := by
    intro a b ha hb
    unfold D0
    by_cases h : a = b
    · subst h
      exact Or.inl ⟨rfl, by rw [if_pos rfl], hv.diag a ha⟩
    · exact Or.inr ⟨h, by rw [if_neg h]⟩
  refine ⟨fun a ha => ?_, fun a b ha hb => ?_, fun a b ha hb => ?_, fun a b ha hb => ?_, fun a b ha hb hab => ?_, fun k a b hk => by omega, fun a b ha hb => ?_⟩
  · unfold D0; rw [if_pos rfl]
  · have := hv.lo a b ha hb
    rcases key a b ha hb with ⟨_, e, _⟩ | ⟨_, e⟩ <;> rw [e] <;> simp <;> omega
  · rcases key a b ha hb with ⟨_, e, e2⟩ | ⟨_, e⟩ <;> rw [e]
    · rw [e2]; exact Or.inr ⟨rfl, by simp⟩
    · exact lle_refl _
  · have := hv.hi a b ha hb
    rcases key a b ha hb with ⟨_, e, _⟩ | ⟨_, e⟩ <;> rw [e] <;> simp <;> omega
  · rcases key a b ha hb with ⟨h, _, _⟩ | ⟨_, e⟩
    · exact absurd h hab
    · rw [e]; simp
  · rcases key a b ha hb with ⟨h, e, _⟩ | ⟨_, e⟩
    · rw [e]; subst h; exact Pth.nil a ha
    · rw [e]
      have := Pth.cons a b b 0 0 ha hb (Pth.nil b hb)
      simpa using this
theorem inv_step (w : List (List Int)) (hv : VW w) (c : Nat) (hc : c < w.length) (D : Nat → Nat → Int × Int) (I : Inv w c D) : Inv w (c + 1) (upd c D) := by
  have hcc := I.diag c hc
  refine ⟨fun a ha => ?_, fun a b ha hb => ?_, fun a b ha hb => ?_, fun a b ha hb => ?_, fun a b ha hb hab => ?_, fun k a b hk hkn ha hb => ?_, fun a b ha hb => ?_⟩
  · have h1 := I.nn a c ha hc
    have h2 := I.nn c a hc ha
    have h3 := I.diag a ha
    unfold upd
    rw [if_neg (by rw [lxB_t, h3]; unfold ad; simp only; omega), h3]
  · have h0 := I.nn a b ha hb
    have h1 := I.nn a c ha hc
    have h2 := I.nn c b hc hb
    rcases upd_or c D a b with e | e <;> rw [e]
    · exact h0
    · unfold ad; simp only; omega
  · exact lle_trans (upd_le c D a b).1 (I.edge a b ha hb)
  · have h0 := I.hi a b ha hb
    have h1 := I.hi a c ha hc
    have h2 := I.hi c b hc hb
    have h3 := (upd_le c D a b).1
    have hp : (2 : Int) ^ (c + 1) = 2 ^ c + 2 ^ c := by rw [Int.pow_succ]; omega
    have hq : (0 : Int) ≤ 2 ^ c := Int.pow_nonneg (by omega)
    rw [hp]
    refine ⟨by unfold lle at h3; omega, ?_⟩
    rcases upd_or c D a b with e | e <;> rw [e]
    · omega
    · unfold ad; simp only; omega
  · have h0 := I.pos a b ha hb hab
    rcases upd_or c D a b with e | e <;> rw [e]
    · exact h0
    · have h1 := I.nn a c ha hc
      have h2 := I.nn c b hc hb
      unfold ad
      simp only
      by_cases h : a = c
      · have := I.pos c b hc hb (by omega)
        omega
      · have := I.pos a c ha hc h
        omega
  · have hL := upd_le c D a b
    by_cases hkc : k = c
    · subst hkc
      rw [upd_col k D hcc a, upd_row k D hcc b]
      exact hL.2
    · have hk2 : k < c := by omega
      have t0 := I.tri k a b hk2 hkn ha hb
      have t1 := I.tri k c b hk2 hkn hc hb
      have t2 := I.tri k a c hk2 hkn ha hc
      have n1 := I.nn c k hc hkn
      have n2 := I.nn k c hkn hc
      rcases upd_or c D a k with e1 | e1 <;> rcases upd_or c D k b with e2 | e2 <;> rw [e1, e2]
      · exact lle_trans hL.1 t0
      · refine lle_trans hL.2 ?_
        unfold lle ad at *
        simp only at *
        omega
      · refine lle_trans hL.2 ?_
        unfold lle ad at *
        simp only at *
        omega
      · refine lle_trans hL.2 ?_
        unfold lle ad at *
        simp only at *
        omega
  · rcases upd_or c D a b with e | e <;> rw [e]
    · exact I.real a b ha hb
    · exact (I.real a c ha hc).app (I.real c b hc hb)
theorem inv_FW (w : List (List Int)) (hv : VW w) : ∀ c, c ≤ w.length → Inv w c (FW w c) := by
  intro c
  induction c with
  | zero => intro _; exact inv0 w hv
  | succ c ih => intro h; exact inv_step w hv c (by omega) _ (ih (by omega))
def FD (w : List (List Int)) : Nat → Nat → Int × Int := FW w w.length
theorem FD_least (w : List (List Int)) (hv : VW w) {a b : Nat} {L S : Int} (h : Pth w a b L S) (hb : b < w.length) : lle (FD w a b) (L, S) := by
  have I := inv_FW w hv w.length (Nat.le_refl _)
  unfold FD
  induction h with
  | nil a ha => rw [I.diag a ha]; exact lle_refl _
  | cons a x b L S ha hx _ ih =>
    refine lle_trans (I.tri x a b hx hx ha hb) ?_
    exact lle_ad (I.edge a x ha hx) (ih hb)
theorem FD_next (w : List (List Int)) (hv : VW w) (a b : Nat) (ha : a < w.length) (hb : b < w.length) (hab : a ≠ b) : ∃ x, x < w.length ∧ ad (W w a x, 1) (FD w x b) = FD w a b := by
  have I := inv_FW w hv w.length (Nat.le_refl _)
  have hr := I.real a b ha hb
  generalize hL : (FW w w.length a b).1 = L at hr
  generalize hS : (FW w w.length a b).2 = S at hr
  cases hr with
  | nil _ _ => exact absurd rfl hab
  | cons _ x _ L' S' _ hx h =>
    refine ⟨x, hx, ?_⟩
    have h1 := FD_least w hv h hb
    have h2 := I.tri x a b hx hx ha hb
    have h3 := I.edge a x ha hx
    refine lle_antisymm ?_ ?_
    · have h4 := lle_ad (lle_refl (W w a x, (1 : Int))) h1
      have e : FD w a b = (W w a x + L', 1 + S') := Prod.ext hL hS
      rw [e]
      exact h4
    · exact lle_trans h2 (lle_ad h3 (lle_refl _))

theorem L3_set (m : List (List S50)) (a x : Nat) (r : List S50) (ha : a < m.length) : rd_L3 (m.set a r) (x : Int) = if x = a then r else rd_L3 m (x : Int) := by
  unfold rd_L3
  simp only [Int.toNat_natCast, List.getD_eq_getElem?_getD, List.getElem?_set]
  by_cases h : x = a
  · subst h
    simp [ha]
  · rw [if_neg (fun e => h e.symm), if_neg h]
theorem T50_set (r : List S50) (b y : Nat) (v : S50) (hb : b < r.length) : rd_T50 (r.set b v) (y : Int) = if y = b then v else rd_T50 r (y : Int) := by
  unfold rd_T50
  simp only [Int.toNat_natCast, List.getD_eq_getElem?_getD, List.getElem?_set]
  by_cases h : y = b
  · subst h
    simp [hb]
  · rw [if_neg (fun e => h e.symm), if_neg h]
def En (m : List (List S50)) (a b : Nat) : Int × Int := ((rd_T50 (rd_L3 m (a : Int)) (b : Int)).f0, (rd_T50 (rd_L3 m (a : Int)) (b : Int)).f1)
structure Rep (m : List (List S50)) (n : Nat) (D : Nat → Nat → Int × Int) : Prop where
  len : m.length = n
  rows : ∀ a, a < n → (rd_L3 m (a : Int)).length = n
  ent : ∀ a b, a < n → b < n → En m a b = D a b
theorem Rep.cong {m : List (List S50)} {n : Nat} {D D' : Nat → Nat → Int × Int} (h : Rep m n D) (e : ∀ a b, a < n → b < n → D a b = D' a b) : Rep m n D' := ⟨h.len, h.rows, fun a b ha hb => (h.ent a b ha hb).trans (e a b ha hb)⟩
theorem Rep.set {m : List (List S50)} {n : Nat} {D : Nat → Nat → Int × Int} (h : Rep m n D) (a b : Nat) (ha : a < n) (hb : b < n) (p : Int × Int) : Rep (m.set a ((rd_L3 m (a : Int)).set b ⟨p.1, p.2⟩)) n (fun x y => if x = a ∧ y = b then p else D x y) := by
  have hl := h.len
  have hr := h.rows a ha
  refine ⟨by simp [hl], fun x hx => ?_, fun x y hx hy => ?_⟩
  · rw [L3_set _ _ _ _ (by omega)]
    split
    · simp [hr]
    · exact h.rows x hx
  · unfold En
    rw [L3_set _ _ _ _ (by omega)]
    by_cases h1 : x = a
    · subst h1
      rw [if_pos rfl, T50_set _ _ _ _ (by omega)]
      by_cases h2 : y = b
      · subst h2
        simp
      · rw [if_neg h2, if_neg (fun e => h2 e.2)]
        exact h.ent x y hx hy
    · rw [if_neg h1, if_neg (fun e => h1 e.1)]
      exact h.ent x y hx hy
theorem and_f (a b c d : Int) (h : -1000000000 ≤ a ∧ a ≤ 1000000000) (h2 : -1000000000 ≤ b ∧ b ≤ 1000000000) (h3 : -1000000000 ≤ c ∧ c ≤ 1000000000) (h4 : -1000000000 ≤ d ∧ d ≤ 1000000000) : chart_leg_and.f a b c d = some (ad (a, b) (c, d)) := by
  unfold chart_leg_and.f ad
  rw [w64 (by omega) (by omega), w64 (by omega) (by omega)]
theorem before_f (p q : Int × Int) : chart_leg_before.f p.1 p.2 q.1 q.2 = some (lxB p q) := by
  unfold chart_leg_before.f lxB
  by_cases h1 : p.1 < q.1
  · simp [h1]
  · by_cases h2 : p.1 = q.1
    · simp [h2]
    · simp [h1, h2]
theorem pow20 : ∀ c : Nat, c < 21 → (2 : Int) ^ c ≤ 1048576 := by decide
section
variable (w : List (List Int)) (hv : VW w) (hn : w.length ≤ 20)
include hv hn
theorem closed_l2 (c a : Nat) (hc : c < w.length) (ha : a < w.length) (P : List (List S50) → Prop) (hP : ∀ m, Rep m w.length (fun x y => if x < a + 1 then upd c (FW w c) x y else FW w c x y) → ∃ R, P R ∧ Ev (fun k => chart_closed.l1 k m (c : Int) (w.length : Int) (c : Int) (w.length : Int) ((a : Int) + 1)) R) (d : Nat) : ∀ (i : Nat) (m : List (List S50)), i + d = w.length → Rep m w.length (fun x y => if x < a ∨ (x = a ∧ y < i) then upd c (FW w c) x y else FW w c x y) → ∃ R, P R ∧ Ev (fun k => chart_closed.l2 k m (c : Int) (a : Int) (w.length : Int) (c : Int) (w.length : Int) (a : Int) (w.length : Int) (i : Int)) R := by
  have I := inv_FW w hv c (by omega)
  have hcc := I.diag c hc
  induction d with
  | zero =>
    intro i m hi hm
    obtain ⟨R, h1, h2⟩ := hP m (hm.cong (fun x y hx hy => by
      have : (x < a ∨ (x = a ∧ y < i)) ↔ x < a + 1 := by omega
      simp only [this]))
    refine ⟨R, h1, ev_succ ?_⟩
    simp only [chart_closed.l2, if_neg (show ¬ (i : Int) < (w.length : Int) by omega), w64 (x := (a : Int) + 1) (by omega) (by omega)]
    exact h2
  | succ d ih =>
    intro i m hi hm
    have hp := pow20 c (by omega)
    have hiw : i < w.length := by omega
    have e1 := hm.ent a c ha hc
    have e2 := hm.ent c i hc hiw
    have e3 := hm.ent a i ha hiw
    have e1' : En m a c = FW w c a c := by rw [e1]; split; exact upd_col c _ hcc a; rfl
    have e2' : En m c i = FW w c c i := by rw [e2]; split; exact upd_row c _ hcc i; rfl
    have e3' : En m a i = FW w c a i := by rw [e3, if_neg (by omega)]
    have b1 := I.hi a c ha hc
    have b2 := I.hi c i hc hiw
    have b3 := I.nn a c ha hc
    have b4 := I.nn c i hc hiw
    have q1 : rd_T50 (rd_L3 m (a : Int)) (c : Int) = ⟨(FW w c a c).1, (FW w c a c).2⟩ := by rw [← e1']; rfl
    have q2 : rd_T50 (rd_L3 m (c : Int)) (i : Int) = ⟨(FW w c c i).1, (FW w c c i).2⟩ := by rw [← e2']; rfl
    have q3 : rd_T50 (rd_L3 m (a : Int)) (i : Int) = ⟨(FW w c a i).1, (FW w c a i).2⟩ := by rw [← e3']; rfl
    have step : ∃ m', (m' = if lxB (ad (FW w c a c) (FW w c c i)) (FW w c a i) = true then m.set a ((rd_L3 m (a : Int)).set i ⟨(ad (FW w c a c) (FW w c c i)).1, (ad (FW w c a c) (FW w c c i)).2⟩) else m) ∧ Rep m' w.length (fun x y => if x < a ∨ (x = a ∧ y < i + 1) then upd c (FW w c) x y else FW w c x y) := by
      refine ⟨_, rfl, ?_⟩
      by_cases hx : lxB (ad (FW w c a c) (FW w c c i)) (FW w c a i) = true
      · rw [if_pos hx]
        refine (hm.set a i ha hiw _).cong (fun x y hx2 hy => ?_)
        by_cases h3 : x = a ∧ y = i
        · rw [if_pos h3, if_pos (by omega), h3.1, h3.2]
          unfold upd
          rw [if_pos hx]
        · rw [if_neg h3]
          have : (x < a ∨ (x = a ∧ y < i)) ↔ (x < a ∨ (x = a ∧ y < i + 1)) := by omega
          simp only [this]
      · rw [if_neg hx]
        refine hm.cong (fun x y hx2 hy => ?_)
        by_cases h3 : x = a ∧ y = i
        · rw [if_neg (by omega), if_pos (by omega), h3.1, h3.2]
          unfold upd
          rw [if_neg hx]
        · have : (x < a ∨ (x = a ∧ y < i)) ↔ (x < a ∨ (x = a ∧ y < i + 1)) := by omega
          simp only [this]
    obtain ⟨m', hm', hrep⟩ := step
    obtain ⟨R, h1, h2⟩ := ih (i + 1) m' (by omega) hrep
    refine ⟨R, h1, ev_succ ?_⟩
    rw [show (((i + 1 : Nat) : Int)) = (i : Int) + 1 by omega] at h2
    have ha2 := hm.rows a ha
    have hc2 := hm.rows c hc
    have hl2 := hm.len
    simp only [chart_closed.l2, if_pos (show (i : Int) < (w.length : Int) by omega), if_pos (show (0 : Int) ≤ (a : Int) by omega), if_pos (show (0 : Int) ≤ (c : Int) by omega), if_pos (show (0 : Int) ≤ (i : Int) by omega), hl2, ha2, hc2, if_pos (show (a : Int) < (w.length : Int) by omega), if_pos (show (c : Int) < (w.length : Int) by omega), q1, q2, q3, w64 (x := (i : Int) + 1) (by omega) (by omega)]
    rw [and_f _ _ _ _ (by omega) (by omega) (by omega) (by omega)]
    simp only [Option.bind_some]
    have hb := before_f (ad (FW w c a c) (FW w c c i)) (FW w c a i)
    simp only [hb, Option.bind_some, Int.toNat_natCast]
    by_cases hx : lxB (ad (FW w c a c) (FW w c c i)) (FW w c a i) = true
    · rw [if_pos hx] at hm'
      simp only [if_pos hx, ← hm']
      exact h2
    · rw [if_neg hx] at hm'
      simp only [if_neg hx]
      rw [hm'] at h2
      exact h2
theorem closed_l1 (c : Nat) (hc : c < w.length) (P : List (List S50) → Prop) (hP : ∀ m, Rep m w.length (FW w (c + 1)) → ∃ R, P R ∧ Ev (fun k => chart_closed.l0 k m (w.length : Int) ((c : Int) + 1)) R) (d : Nat) : ∀ (i : Nat) (m : List (List S50)), i + d = w.length → Rep m w.length (fun x y => if x < i then upd c (FW w c) x y else FW w c x y) → ∃ R, P R ∧ Ev (fun k => chart_closed.l1 k m (c : Int) (w.length : Int) (c : Int) (w.length : Int) (i : Int)) R := by
  induction d with
  | zero =>
    intro i m hi hm
    obtain ⟨R, h1, h2⟩ := hP m (hm.cong (fun x y hx hy => by rw [if_pos (by omega)]; rfl))
    refine ⟨R, h1, ev_succ ?_⟩
    simp only [chart_closed.l1, if_neg (show ¬ (i : Int) < (w.length : Int) by omega), w64 (x := (c : Int) + 1) (by omega) (by omega)]
    exact h2
  | succ d ih =>
    intro i m hi hm
    obtain ⟨R, h1, h2⟩ := closed_l2 w hv hn c i hc (by omega) P (fun m' hm' => by
      have := ih (i + 1) m' (by omega) hm'
      rwa [show (((i + 1 : Nat) : Int)) = (i : Int) + 1 by omega] at this) w.length 0 m (by omega) (hm.cong (fun x y hx hy => by
      have : (x < i ∨ (x = i ∧ y < 0)) ↔ x < i := by omega
      simp only [this]))
    refine ⟨R, h1, ev_succ ?_⟩
    simp only [chart_closed.l1, if_pos (show (i : Int) < (w.length : Int) by omega), hm.len]
    exact h2
theorem closed_l0 (d : Nat) : ∀ (c : Nat) (m : List (List S50)), c + d = w.length → Rep m w.length (FW w c) → ∃ R, Rep R w.length (FD w) ∧ Ev (fun k => chart_closed.l0 k m (w.length : Int) (c : Int)) R := by
  induction d with
  | zero =>
    intro c m hc hm
    have : c = w.length := by omega
    subst this
    refine ⟨m, hm, ev_succ ?_⟩
    simp only [chart_closed.l0, if_neg (show ¬ (w.length : Int) < (w.length : Int) by omega)]
    exact Ev.now _
  | succ d ih =>
    intro c m hc hm
    obtain ⟨R, h1, h2⟩ := closed_l1 w hv hn c (by omega) (fun R => Rep R w.length (FD w)) (fun m' hm' => by
      have := ih (c + 1) m' (by omega) hm'
      rwa [show (((c + 1 : Nat) : Int)) = (c : Int) + 1 by omega] at this) w.length 0 m (by omega) (hm.cong (fun x y hx hy => by rw [if_neg (by omega)]))
    refine ⟨R, h1, ev_succ ?_⟩
    simp only [chart_closed.l0, if_pos (show (c : Int) < (w.length : Int) by omega), hm.len]
    exact h2
end

section
variable (w : List (List Int)) (hv : VW w) (hn : w.length ≤ 20)
include hv hn
theorem first_l1 (a : Nat) (ha : a < w.length) (P : List (List S50) → Prop) (hP : ∀ m, (m.length = w.length ∧ ∀ x, x < a + 1 → (rd_L3 m (x : Int)).length = w.length ∧ ∀ y, y < w.length → En m x y = D0 w x y) → ∃ R, P R ∧ Ev (fun k => chart_first.l0 k w m w (w.length : Int) ((a : Int) + 1)) R) (d : Nat) : ∀ (i : Nat) (m : List (List S50)), i + d = w.length → (m.length = w.length ∧ ∀ x, x < a + 1 → (rd_L3 m (x : Int)).length = w.length ∧ ∀ y, y < w.length → En m x y = if x < a ∨ y < i then D0 w x y else (0, 0)) → ∃ R, P R ∧ Ev (fun k => chart_first.l1 k w m (a : Int) w (w.length : Int) (a : Int) (rd_L1 w (a : Int)) (w.length : Int) (i : Int)) R := by
  induction d with
  | zero =>
    intro i m hi hm
    obtain ⟨R, h1, h2⟩ := hP m ⟨hm.1, fun x hx => ⟨(hm.2 x hx).1, fun y hy => by rw [(hm.2 x hx).2 y hy, if_pos (by omega)]⟩⟩
    refine ⟨R, h1, ev_succ ?_⟩
    simp only [chart_first.l1, if_neg (show ¬ (i : Int) < (w.length : Int) by omega), w64 (x := (a : Int) + 1) (by omega) (by omega)]
    exact h2
  | succ d ih =>
    intro i m hi hm
    have hra := (hm.2 a (by omega)).1
    have hml := hm.1
    by_cases hai : (a : Int) = (i : Int)
    · have hai2 : a = i := by omega
      obtain ⟨R, h1, h2⟩ := ih (i + 1) m (by omega) ⟨hm.1, fun x hx => ⟨(hm.2 x hx).1, fun y hy => by
        rw [(hm.2 x hx).2 y hy]
        by_cases h3 : x < a ∨ y < i
        · rw [if_pos h3, if_pos (by omega)]
        · rw [if_neg h3]
          by_cases h4 : y = i
          · rw [if_pos (by omega)]
            unfold D0
            rw [if_pos (by omega)]
          · rw [if_neg (by omega)]⟩⟩
      refine ⟨R, h1, ev_succ ?_⟩
      rw [show (((i + 1 : Nat) : Int)) = (i : Int) + 1 by omega] at h2
      simp only [chart_first.l1, if_pos (show (i : Int) < (w.length : Int) by omega), if_pos (show (0 : Int) ≤ (i : Int) by omega), hv.rows a ha, if_pos hai, w64 (x := (i : Int) + 1) (by omega) (by omega)]
      exact h2
    · obtain ⟨R, h1, h2⟩ := ih (i + 1) (m.set a ((rd_L3 m (a : Int)).set i ⟨rd (rd_L1 w (a : Int)) (i : Int), 1⟩)) (by omega) ⟨by simp [hml], fun x hx => by
        rw [L3_set _ _ _ _ (by omega)]
        refine ⟨?_, fun y hy => ?_⟩
        · split
          · simp [hra]
          · exact (hm.2 x hx).1
        · unfold En
          rw [L3_set _ _ _ _ (by omega)]
          by_cases h3 : x = a
          · subst h3
            rw [if_pos rfl, T50_set _ _ _ _ (by omega)]
            by_cases h4 : y = i
            · subst h4
              rw [if_pos rfl, if_pos (by omega)]
              unfold D0 W
              rw [if_neg (by omega)]
            · rw [if_neg h4]
              have := (hm.2 x hx).2 y hy
              unfold En at this
              rw [this]
              have e : (x < x ∨ y < i) ↔ (x < x ∨ y < i + 1) := by omega
              simp only [e]
          · rw [if_neg h3]
            have := (hm.2 x hx).2 y hy
            unfold En at this
            rw [this, if_pos (by omega), if_pos (by omega)]⟩
      refine ⟨R, h1, ev_succ ?_⟩
      rw [show (((i + 1 : Nat) : Int)) = (i : Int) + 1 by omega] at h2
      simp only [chart_first.l1, if_pos (show (i : Int) < (w.length : Int) by omega), if_pos (show (0 : Int) ≤ (i : Int) by omega), if_pos (show (0 : Int) ≤ (a : Int) by omega), hv.rows a ha, if_neg hai, hml, hra, if_pos (show (a : Int) < (w.length : Int) by omega), w64 (x := (i : Int) + 1) (by omega) (by omega), Int.toNat_natCast]
      exact h2
theorem first_l0 (P : List (List S50) → Prop) (hP : ∀ m, Rep m w.length (D0 w) → P m) (d : Nat) : ∀ (i : Nat) (m : List (List S50)), i + d = w.length → (m.length = w.length ∧ ∀ x, x < i → (rd_L3 m (x : Int)).length = w.length ∧ ∀ y, y < w.length → En m x y = D0 w x y) → ∃ R, P R ∧ Ev (fun k => chart_first.l0 k w m w (w.length : Int) (i : Int)) R := by
  induction d with
  | zero =>
    intro i m hi hm
    refine ⟨m, hP m ⟨hm.1, fun a ha => (hm.2 a (by omega)).1, fun a b ha hb => (hm.2 a (by omega)).2 b hb⟩, ev_succ ?_⟩
    simp only [chart_first.l0, if_neg (show ¬ (i : Int) < (w.length : Int) by omega)]
    exact Ev.now _
  | succ d ih =>
    intro i m hi hm
    have hml := hm.1
    have hz : ∀ y, y < w.length → rd_T50 (List.replicate w.length z50) (y : Int) = z50 := by
      intro y hy
      unfold rd_T50
      simp [hy]
    obtain ⟨R, h1, h2⟩ := first_l1 w hv hn i (by omega) P (fun m' hm' => by
      have := ih (i + 1) m' (by omega) hm'
      rwa [show (((i + 1 : Nat) : Int)) = (i : Int) + 1 by omega] at this) w.length 0 (m.set i (List.replicate w.length z50)) (by omega) ⟨by simp [hml], fun x hx => by
        unfold En
        rw [L3_set _ _ _ _ (by omega)]
        by_cases h3 : x = i
        · subst h3
          rw [if_pos rfl]
          refine ⟨by simp, fun y hy => ?_⟩
          rw [hz y hy, if_neg (by omega)]
          rfl
        · rw [if_neg h3]
          refine ⟨(hm.2 x (by omega)).1, fun y hy => ?_⟩
          have := (hm.2 x (by omega)).2 y hy
          unfold En at this
          rw [this, if_pos (by omega)]⟩
    refine ⟨R, h1, ev_succ ?_⟩
    simp only [chart_first.l0, if_pos (show (i : Int) < (w.length : Int) by omega), if_pos (show (0 : Int) ≤ (i : Int) by omega), if_pos (show (0 : Int) ≤ (w.length : Int) by omega), Int.toNat_natCast, if_pos (show w.length ≤ 17592186044416 by omega), hml, hv.rows i (by omega)]
    exact h2
theorem closed_f : ∃ m, Rep m w.length (FD w) ∧ Ev (fun k => chart_closed.f k w) m := by
  obtain ⟨m0, h0, e0⟩ := first_l0 w hv hn (fun m => Rep m w.length (D0 w)) (fun _ h => h) w.length 0 (List.replicate w.length []) (by omega) ⟨by simp, fun x hx => by omega⟩
  obtain ⟨m, h1, e1⟩ := closed_l0 w hv hn w.length 0 m0 (by omega) h0
  refine ⟨m, h1, ?_⟩
  unfold chart_closed.f
  have ef : Ev (fun k => chart_first.f k w) m0 := by
    unfold chart_first.f
    simp only [if_pos (show (0 : Int) ≤ (w.length : Int) by omega), Int.toNat_natCast, if_pos (show w.length ≤ 11728124029610 by omega)]
    exact e0
  refine Ev.bind ef ?_
  simp only [h0.len]
  exact e1
end
theorem nextx (w : List (List Int)) (hv : VW w) (hn : w.length ≤ 20) (m : List (List S50)) (hm : Rep m w.length (FD w)) (a b : Nat) (ha : a < w.length) (hb : b < w.length) (out : List Int) (hout : out.length ≤ 10000000) (d : Nat) : ∀ i : Nat, i + d = w.length → (∃ x, i ≤ x ∧ x < w.length ∧ ad (W w a x, 1) (FD w x b) = FD w a b) → ∃ x, x < w.length ∧ ad (W w a x, 1) (FD w x b) = FD w a b ∧ ∀ R, Ev (fun k => chart_Path.l0 k w (x : Int) (b : Int) m (out ++ [(x : Int)])) R → Ev (fun k => chart_Path.l1 k w (a : Int) (b : Int) m out (i : Int)) R := by
  have I := inv_FW w hv w.length (Nat.le_refl _)
  have hp := pow20 w.length (by omega)
  induction d with
  | zero => intro i hi h; obtain ⟨x, h1, h2, _⟩ := h; omega
  | succ d ih =>
    intro i hi h
    have hiw : i < w.length := by omega
    have b1 := I.hi i b hiw hb
    have b2 := I.nn i b hiw hb
    have b3 := W_hi w hv a i ha hiw
    have q1 : rd_T50 (rd_L3 m (i : Int)) (b : Int) = ⟨(FD w i b).1, (FD w i b).2⟩ := by rw [← hm.ent i b hiw hb]; rfl
    have q2 : rd_T50 (rd_L3 m (a : Int)) (b : Int) = ⟨(FD w a b).1, (FD w a b).2⟩ := by rw [← hm.ent a b ha hb]; rfl
    have hand : chart_leg_and.f (rd (rd_L1 w (a : Int)) (i : Int)) 1 (FD w i b).1 (FD w i b).2 = some (ad (W w a i, 1) (FD w i b)) := and_f _ _ _ _ (by omega) (by omega) (by unfold FD; omega) (by unfold FD; omega)
    have walk : ∀ R, (Ev (fun k => if (!((ad (W w a i, 1) (FD w i b)).1 == (FD w a b).1) || (!((ad (W w a i, 1) (FD w i b)).2 == (FD w a b).2))) = true then (chart_Path.l1 k w (a : Int) (b : Int) m out ((i : Int) + 1)) else (chart_Path.l0 k w (i : Int) (b : Int) m (out ++ [(i : Int)]))) R) → Ev (fun k => chart_Path.l1 k w (a : Int) (b : Int) m out (i : Int)) R := by
      intro R hR
      refine ev_succ ?_
      simp only [chart_Path.l1, if_pos (show (0 : Int) ≤ (a : Int) by omega), if_pos (show (a : Int) < (w.length : Int) by omega), if_pos (show (0 : Int) ≤ (i : Int) by omega), hv.rows a ha, if_pos (show (i : Int) < (w.length : Int) by omega), hm.len, if_pos (show (0 : Int) ≤ (b : Int) by omega), hm.rows i hiw, hm.rows a ha, if_pos (show (b : Int) < (w.length : Int) by omega), q1, q2, hand, Option.bind_some, w64 (x := (i : Int) + 1) (by omega) (by omega), if_pos (show out.length < 17592186044416 by omega)]
      exact hR
    by_cases he : ad (W w a i, 1) (FD w i b) = FD w a b
    · refine ⟨i, hiw, he, fun R hR => walk R ?_⟩
      rw [he]
      simp only [beq_self_eq_true, Bool.not_true, Bool.or_self, if_neg (show ¬ false = true by simp)]
      exact hR
    · obtain ⟨x, h1, h2, h3⟩ := ih (i + 1) (by omega) (by
        obtain ⟨x, hx1, hx2, hx3⟩ := h
        refine ⟨x, ?_, hx2, hx3⟩
        by_cases h4 : x = i
        · subst h4; exact absurd hx3 he
        · omega)
      refine ⟨x, h1, h2, fun R hR => walk R ?_⟩
      have hne : (!((ad (W w a i, 1) (FD w i b)).1 == (FD w a b).1) || (!((ad (W w a i, 1) (FD w i b)).2 == (FD w a b).2))) = true := by
        rw [Bool.or_eq_true]
        by_cases h4 : (ad (W w a i, 1) (FD w i b)).1 = (FD w a b).1
        · right
          have : ¬ (ad (W w a i, 1) (FD w i b)).2 = (FD w a b).2 := fun h5 => he (Prod.ext h4 h5)
          simp [this]
        · left
          simp [h4]
      simp only [hne, if_true]
      have := h3 R hR
      rwa [show (((i + 1 : Nat) : Int)) = (i : Int) + 1 by omega] at this
def lastN (a : Nat) : List Nat → Nat
  | [] => a
  | x :: t => lastN x t
theorem path_l0 (w : List (List Int)) (hv : VW w) (hn : w.length ≤ 20) (m : List (List S50)) (hm : Rep m w.length (FD w)) (b : Nat) (hb : b < w.length) (s : Nat) : ∀ (a : Nat) (out : List Int), a < w.length → (FD w a b).2 = s → out.length + s ≤ 10000000 → ∃ l : List Nat, l.length = s ∧ (∀ x ∈ l, x < w.length) ∧ lastN a l = b ∧ sumL w ((a : Int) :: l.map Int.ofNat) = (FD w a b).1 ∧ Ev (fun k => chart_Path.l0 k w (a : Int) (b : Int) m out) (out ++ l.map Int.ofNat, 0) := by
  have I := inv_FW w hv w.length (Nat.le_refl _)
  induction s with
  | zero =>
    intro a out ha hs hout
    have hab : a = b := by
      refine Classical.byContradiction fun h => ?_
      have := I.pos a b ha hb h
      unfold FD at hs
      omega
    subst hab
    have hd := I.diag a ha
    refine ⟨[], rfl, by simp, rfl, ?_, ev_succ ?_⟩
    · unfold FD
      rw [hd]
      rfl
    · simp only [chart_Path.l0, if_true, List.map_nil, List.append_nil]
      exact Ev.now _
  | succ s ih =>
    intro a out ha hs hout
    have hab : a ≠ b := by
      intro h
      subst h
      have hd := I.diag a ha
      unfold FD at hs
      rw [hd] at hs
      simp at hs
      omega
    obtain ⟨x0, hx0, he0⟩ := FD_next w hv a b ha hb hab
    obtain ⟨x, hx, he, hev⟩ := nextx w hv hn m hm a b ha hb out (by omega) w.length 0 (by omega) ⟨x0, by omega, hx0, he0⟩
    have hs2 : (FD w x b).2 = s := by
      have := congrArg Prod.snd he
      unfold ad at this
      simp only at this
      omega
    obtain ⟨l, h1, h2, h3, h4, h5⟩ := ih x (out ++ [(x : Int)]) hx hs2 (by simp; omega)
    refine ⟨x :: l, by simp [h1], by simpa using ⟨hx, h2⟩, h3, ?_, ev_succ ?_⟩
    · have := congrArg Prod.fst he
      unfold ad at this
      simp only at this
      rw [List.map_cons, sumL]
      have e : Int.ofNat x = (x : Int) := rfl
      rw [e, h4]
      exact this
    · simp only [chart_Path.l0, if_neg (show ¬ (a : Int) = (b : Int) by omega)]
      have := hev _ h5
      rw [List.append_assoc, List.singleton_append] at this
      exact this

theorem L1_set (m : List (List Int)) (a x : Nat) (r : List Int) (ha : a < m.length) : rd_L1 (m.set a r) (x : Int) = if x = a then r else rd_L1 m (x : Int) := by
  unfold rd_L1
  simp only [Int.toNat_natCast, List.getD_eq_getElem?_getD, List.getElem?_set]
  by_cases h : x = a
  · subst h
    simp [ha]
  · rw [if_neg (fun e => h e.symm), if_neg h]
def longs (l : List S50) : List Int := l.map (·.f0)
theorem T50_drop (l : List S50) (i : Nat) (h : i < l.length) : l.drop i = rd_T50 l (i : Int) :: l.drop (i + 1) := by
  rw [List.drop_eq_getElem_cons h]
  simp [rd_T50, h]
section
variable (w : List (List Int)) (m : List (List S50)) (n : Nat) (hn : n ≤ 200) (hml : m.length = n) (hmr : ∀ a, a < n → (rd_L3 m (a : Int)).length = n)
include hn hml hmr
theorem close_l1 (a : Nat) (ha : a < n) (R : List (List Int) × Int) (d : Nat) : ∀ (i : Nat) (c : List (List Int)), i + d = n → c.length = n → rd_L1 c (a : Int) = longs ((rd_L3 m (a : Int)).take i) → (∀ c', c'.length = n → rd_L1 c' (a : Int) = longs (rd_L3 m (a : Int)) → (∀ x, x ≠ a → rd_L1 c' (x : Int) = rd_L1 c (x : Int)) → Ev (fun k => chart_Close.l0 k c' m (n : Int) ((a : Int) + 1)) R) → Ev (fun k => chart_Close.l1 k c (a : Int) m (n : Int) (a : Int) (rd_L3 m (a : Int)) (n : Int) (i : Int)) R := by
  have hra := hmr a ha
  induction d with
  | zero =>
    intro i c hi hc hr hR
    rw [List.take_of_length_le (by omega)] at hr
    refine ev_succ ?_
    simp only [chart_Close.l1, if_neg (show ¬ (i : Int) < (n : Int) by omega), w64 (x := (a : Int) + 1) (by omega) (by omega)]
    exact hR c hc hr (fun _ _ => rfl)
  | succ d ih =>
    intro i c hi hc hr hR
    have h := ih (i + 1) (c.set a ((rd_L1 c (a : Int)) ++ [(rd_T50 (rd_L3 m (a : Int)) (i : Int)).f0])) (by omega) (by simp [hc]) (by
      rw [L1_set _ _ _ _ (by omega), if_pos rfl, hr]
      unfold longs
      rw [List.take_add_one, List.getElem?_eq_getElem (show i < (rd_L3 m (a : Int)).length by omega), List.map_append]
      simp [rd_T50, show i < (rd_L3 m (a : Int)).length by omega]) (fun c' h1 h2 h3 => hR c' h1 h2 (fun x hx => by
      rw [h3 x hx, L1_set _ _ _ _ (by omega), if_neg hx]))
    refine ev_succ ?_
    rw [show (((i + 1 : Nat) : Int)) = (i : Int) + 1 by omega] at h
    simp only [chart_Close.l1, if_pos (show (i : Int) < (n : Int) by omega), if_pos (show (0 : Int) ≤ (i : Int) by omega), hra, if_pos (show (0 : Int) ≤ (a : Int) by omega), hc, if_pos (show (a : Int) < (n : Int) by omega), w64 (x := (i : Int) + 1) (by omega) (by omega), Int.toNat_natCast]
    have hlt : (rd_L1 c (a : Int)).length < 17592186044416 := by
      rw [hr]
      unfold longs
      rw [List.length_map, List.length_take]
      omega
    simp only [if_pos hlt]
    exact h
theorem close_l0 (d : Nat) : ∀ (i : Nat) (c : List (List Int)), i + d = n → c.length = n → (∀ x, x < i → rd_L1 c (x : Int) = longs (rd_L3 m (x : Int))) → (∀ x, i ≤ x → x < n → rd_L1 c (x : Int) = []) → ∃ c', c'.length = n ∧ (∀ x, x < n → rd_L1 c' (x : Int) = longs (rd_L3 m (x : Int))) ∧ Ev (fun k => chart_Close.l0 k c m (n : Int) (i : Int)) (c', 0) := by
  induction d with
  | zero =>
    intro i c hi hc h1 h2
    refine ⟨c, hc, fun x hx => h1 x (by omega), ev_succ ?_⟩
    simp only [chart_Close.l0, if_neg (show ¬ (i : Int) < (n : Int) by omega)]
    exact Ev.now _
  | succ d ih =>
    intro i c hi hc h1 h2
    have hri := hmr i (by omega)
    let c2 := c.set i (longs (rd_L3 m (i : Int)))
    have hmk : ∀ c', c'.length = n → rd_L1 c' (i : Int) = longs (rd_L3 m (i : Int)) → (∀ x, x ≠ i → rd_L1 c' (x : Int) = rd_L1 c (x : Int)) → c' = c2 := by
      intro c' hc' hi' hx'
      apply List.ext_getElem
      · simp [c2, hc', hc]
      · intro j hj1 hj2
        have e1 : rd_L1 c' (j : Int) = c'[j] := by simp [rd_L1, hj1]
        have e2 : rd_L1 c2 (j : Int) = c2[j] := by simp [rd_L1, hj2]
        rw [← e1, ← e2]
        show _ = rd_L1 (c.set i _) _
        rw [L1_set _ _ _ _ (by omega)]
        by_cases h3 : j = i
        · subst h3
          rw [if_pos rfl, hi']
        · rw [if_neg h3, hx' j h3]
    obtain ⟨c', h3, h4, h5⟩ := ih (i + 1) c2 (by omega) (by simp [c2, hc]) (fun x hx => by
      show rd_L1 (c.set i _) _ = _
      rw [L1_set _ _ _ _ (by omega)]
      by_cases h3 : x = i
      · subst h3
        rw [if_pos rfl]
      · rw [if_neg h3]
        exact h1 x (by omega)) (fun x hx hx2 => by
      show rd_L1 (c.set i _) _ = _
      rw [L1_set _ _ _ _ (by omega), if_neg (by omega)]
      exact h2 x (by omega) hx2)
    refine ⟨c', h3, h4, ev_succ ?_⟩
    simp only [chart_Close.l0, if_pos (show (i : Int) < (n : Int) by omega), if_pos (show (0 : Int) ≤ (i : Int) by omega), hml, hri]
    refine close_l1 m n hn hml hmr i (by omega) (c', 0) n 0 c (by omega) hc (by rw [h2 i (Nat.le_refl _) (by omega)]; simp [longs]) (fun c3 hc3 hi3 hx3 => ?_)
    rw [hmk c3 hc3 hi3 hx3]
    rw [show (((i + 1 : Nat) : Int)) = (i : Int) + 1 by omega] at h5
    exact h5
end
theorem close_f (w : List (List Int)) (hv : VW w) (hn : w.length ≤ 20) : ∃ c, c.length = w.length ∧ (∀ a, a < w.length → (rd_L1 c (a : Int)).length = w.length ∧ ∀ b, b < w.length → W c a b = (FD w a b).1) ∧ Ev (fun k => chart_Close.f k w) (c, 0) := by
  obtain ⟨m, hm, em⟩ := closed_f w hv hn
  have hr0 : ∀ x, x < w.length → rd_L1 (List.replicate w.length ([] : List Int)) (x : Int) = [] := by
    intro x hx
    unfold rd_L1
    simp [hx]
  obtain ⟨c, h1, h2, h3⟩ := close_l0 m w.length (by omega) hm.len hm.rows w.length 0 (List.replicate w.length []) (by omega) (by simp) (fun x hx => by omega) (fun x _ hx => hr0 x hx)
  refine ⟨c, h1, fun a ha => ?_, ?_⟩
  · have hra := hm.rows a ha
    rw [h2 a ha]
    refine ⟨by simp [longs, hra], fun b hb => ?_⟩
    unfold W
    rw [h2 a ha, ← hm.ent a b ha hb]
    simp [longs, En, rd, rd_T50, show b < (rd_L3 m (a : Int)).length by omega]
  · unfold chart_Close.f
    have hp := places_f w [] (by simp)
    have : plS w [] = 0 := by unfold plS; rw [if_pos ((chkW_ok w).2 hv), if_pos (by simp)]
    rw [this] at hp
    refine Ev.bind hp ?_
    simp only [if_true, if_pos (show (0 : Int) ≤ (w.length : Int) by omega), Int.toNat_natCast, if_pos (show w.length ≤ 11728124029610 by omega)]
    refine Ev.bind em ?_
    simp only [hm.len]
    exact h3
theorem close_VW (w c : List (List Int)) (hv : VW w) (h1 : c.length = w.length) (h2 : ∀ a, a < w.length → (rd_L1 c (a : Int)).length = w.length ∧ ∀ b, b < w.length → W c a b = (FD w a b).1) : VW c := by
  have I := inv_FW w hv w.length (Nat.le_refl _)
  have := hv.pos
  have := hv.le
  refine ⟨by omega, by omega, fun a ha => ?_, fun a b ha hb => ?_, fun a b ha hb => ?_, fun a ha => ?_⟩
  · rw [h1] at ha ⊢; exact (h2 a ha).1
  · rw [h1] at ha hb; rw [(h2 a ha).2 b hb]; exact (I.nn a b ha hb).1
  · rw [h1] at ha hb; rw [(h2 a ha).2 b hb]; exact (I.hi a b ha hb).1
  · rw [h1] at ha; rw [(h2 a ha).2 a ha]; unfold FD; rw [I.diag a ha]
theorem path_f (w : List (List Int)) (hv : VW w) (hn : w.length ≤ 20) (a b : Nat) (ha : a < w.length) (hb : b < w.length) : ∃ l : List Nat, (l.length : Int) = (FD w a b).2 ∧ (∀ x ∈ l, x < w.length) ∧ lastN a l = b ∧ sumL w ((a : Int) :: l.map Int.ofNat) = (FD w a b).1 ∧ Ev (fun k => chart_Path.f k w (a : Int) (b : Int)) ((a : Int) :: l.map Int.ofNat, 0) := by
  have I := inv_FW w hv w.length (Nat.le_refl _)
  have hp20 := pow20 w.length (by omega)
  obtain ⟨m, hm, em⟩ := closed_f w hv hn
  have h0 := I.nn a b ha hb
  have h1 := I.hi a b ha hb
  obtain ⟨l, e1, e2, e3, e4, e5⟩ := path_l0 w hv hn m hm b hb (FD w a b).2.toNat a [(a : Int)] ha (by unfold FD; omega) (by unfold FD; simp; omega)
  refine ⟨l, by rw [e1]; unfold FD; omega, e2, e3, e4, ?_⟩
  unfold chart_Path.f
  have hp := places_f w [(a : Int), (b : Int)] (by simp)
  have : plS w [(a : Int), (b : Int)] = 0 := by
    unfold plS
    rw [if_pos ((chkW_ok w).2 hv), if_pos]
    simp
    omega
  rw [this] at hp
  refine Ev.bind hp ?_
  simp only [if_true]
  refine Ev.bind em ?_
  simpa using e5

def stB (w : List (List Int)) (a : Nat) (g : Nat → Int) (best : Int) (c : Nat) : Int := if 0 ≤ g c ∧ (best < 0 ∨ W w a c + g c < best) then W w a c + g c else best
def GB (w : List (List Int)) (b : Nat) : Nat → Nat → Int
  | 0, a => if a = b then 0 else -1
  | k + 1, a => (List.range w.length).foldl (stB w a (GB w b k)) (-1)
theorem stB_fold (w : List (List Int)) (a : Nat) (g : Nat → Int) (hW : ∀ c, c < w.length → 0 ≤ W w a c) (cs : List Nat) (hcs : ∀ c ∈ cs, c < w.length) : ∀ best : Int, -1 ≤ best → (-1 ≤ cs.foldl (stB w a g) best ∧ (cs.foldl (stB w a g) best = best ∨ ∃ c ∈ cs, 0 ≤ g c ∧ cs.foldl (stB w a g) best = W w a c + g c) ∧ (0 ≤ best → 0 ≤ cs.foldl (stB w a g) best ∧ cs.foldl (stB w a g) best ≤ best) ∧ ∀ c ∈ cs, 0 ≤ g c → 0 ≤ cs.foldl (stB w a g) best ∧ cs.foldl (stB w a g) best ≤ W w a c + g c) := by
  induction cs with
  | nil => intro best hb; simp [hb]
  | cons c t ih =>
    intro best hb
    have hc := hW c (hcs c List.mem_cons_self)
    have hs : -1 ≤ stB w a g best c := by unfold stB; split <;> omega
    obtain ⟨h1, h2, h3, h4⟩ := ih (fun x hx => hcs x (List.mem_cons_of_mem _ hx)) (stB w a g best c) hs
    rw [List.foldl_cons]
    have key : stB w a g best c = best ∨ (0 ≤ g c ∧ stB w a g best c = W w a c + g c) := by
      unfold stB
      by_cases h : 0 ≤ g c ∧ (best < 0 ∨ W w a c + g c < best)
      · rw [if_pos h]; exact Or.inr ⟨h.1, rfl⟩
      · rw [if_neg h]; exact Or.inl rfl
    have key2 : 0 ≤ best → 0 ≤ stB w a g best c ∧ stB w a g best c ≤ best := by
      intro h0
      unfold stB
      split <;> omega
    have key3 : 0 ≤ g c → 0 ≤ stB w a g best c ∧ stB w a g best c ≤ W w a c + g c := by
      intro h0
      unfold stB
      split <;> omega
    refine ⟨h1, ?_, fun h0 => ?_, fun x hx hg => ?_⟩
    · rcases h2 with h2 | ⟨x, hx, hg, he⟩
      · rcases key with k | ⟨k1, k2⟩
        · exact Or.inl (h2.trans k)
        · exact Or.inr ⟨c, List.mem_cons_self, k1, h2.trans k2⟩
      · exact Or.inr ⟨x, List.mem_cons_of_mem _ hx, hg, he⟩
    · have := key2 h0
      have := h3 this.1
      omega
    · rcases List.mem_cons.1 hx with e | hx
      · subst e
        have := key3 hg
        have := h3 this.1
        omega
      · exact h4 x hx hg
theorem GB_ok (w : List (List Int)) (hv : VW w) (b : Nat) (hb : b < w.length) (k : Nat) : ∀ a, a < w.length → -1 ≤ GB w b k a ∧ GB w b k a ≤ 10080 * k ∧ (0 ≤ GB w b k a → Pth w a b (GB w b k a) k) ∧ ∀ L, Pth w a b L k → 0 ≤ GB w b k a ∧ GB w b k a ≤ L := by
  induction k with
  | zero =>
    intro a ha
    unfold GB
    by_cases h : a = b
    · subst h
      rw [if_pos rfl]
      refine ⟨by omega, by omega, fun _ => Pth.nil a ha, fun L hL => ?_⟩
      generalize hk : ((0 : Nat) : Int) = k at hL
      cases hL with
      | nil _ _ => omega
      | cons _ x _ L' S' _ hx h =>
        have : 0 ≤ S' := by
          have : ∀ {a b : Nat} {L S : Int}, Pth w a b L S → 0 ≤ S := by
            intro a b L S h
            induction h with
            | nil _ _ => omega
            | cons _ _ _ _ _ _ _ _ ih => omega
          exact this h
        omega
    · rw [if_neg h]
      refine ⟨by omega, by omega, fun h0 => by omega, fun L hL => ?_⟩
      generalize hk : ((0 : Nat) : Int) = k at hL
      cases hL with
      | nil _ _ => exact absurd rfl h
      | cons _ x _ L' S' _ hx h =>
        have : 0 ≤ S' := by
          have : ∀ {a b : Nat} {L S : Int}, Pth w a b L S → 0 ≤ S := by
            intro a b L S h
            induction h with
            | nil _ _ => omega
            | cons _ _ _ _ _ _ _ _ ih => omega
          exact this h
        omega
  | succ k ih =>
    intro a ha
    have hf := stB_fold w a (GB w b k) (fun c hc => hv.lo a c ha hc) (List.range w.length) (fun c hc => List.mem_range.1 hc) (-1) (by omega)
    have e : GB w b (k + 1) a = (List.range w.length).foldl (stB w a (GB w b k)) (-1) := rfl
    rw [← e] at hf
    obtain ⟨h1, h2, _, h4⟩ := hf
    refine ⟨h1, ?_, fun h0 => ?_, fun L hL => ?_⟩
    · rcases h2 with h2 | ⟨c, hc, hg, he⟩
      · omega
      · have hcn := List.mem_range.1 hc
        have := (ih c hcn).2.1
        have := hv.hi a c ha hcn
        omega
    · rcases h2 with h2 | ⟨c, hc, hg, he⟩
      · omega
      · have hcn := List.mem_range.1 hc
        have hp := (ih c hcn).2.2.1 hg
        have := Pth.cons a c b _ _ ha hcn hp
        rw [he, show (((k + 1 : Nat) : Int)) = 1 + (k : Int) by omega]
        exact this
    · generalize hk : ((k + 1 : Nat) : Int) = k' at hL
      cases hL with
      | nil _ _ => omega
      | cons _ x _ L' S' _ hx h =>
        have e2 : S' = (k : Int) := by omega
        subst e2
        have h5 := (ih x hx).2.2.2 L' h
        have h6 := h4 x (List.mem_range.2 hx) h5.1
        omega
theorem pth_len (w : List (List Int)) (hv : VW w) (hn : w.length ≤ 20) (b : Nat) (hb : b < w.length) (s : Nat) : ∀ a, a < w.length → (FD w a b).2 = s → ∃ l : List Nat, l.length = s + 1 ∧ (∀ x ∈ l, x < w.length ∧ (FD w x b).2 ≤ s) ∧ l.Nodup := by
  have I := inv_FW w hv w.length (Nat.le_refl _)
  induction s with
  | zero => intro a ha hs; exact ⟨[a], rfl, by simp [ha]; omega, by simp⟩
  | succ s ih =>
    intro a ha hs
    have hab : a ≠ b := by
      intro h
      subst h
      have hd := I.diag a ha
      unfold FD at hs
      rw [hd] at hs
      simp at hs
      omega
    obtain ⟨x, hx, he⟩ := FD_next w hv a b ha hb hab
    have hs2 : (FD w x b).2 = s := by
      have := congrArg Prod.snd he
      unfold ad at this
      simp only at this
      omega
    obtain ⟨l, h1, h2, h3⟩ := ih x hx hs2
    refine ⟨a :: l, by simp [h1], ?_, ?_⟩
    · intro y hy
      rcases List.mem_cons.1 hy with e | hy
      · subst e; exact ⟨ha, by omega⟩
      · have := h2 y hy; exact ⟨this.1, by omega⟩
    · rw [List.nodup_cons]
      refine ⟨fun hm => ?_, h3⟩
      have := (h2 a hm).2
      omega
theorem nodup_lt (n : Nat) : ∀ l : List Nat, l.Nodup → (∀ x ∈ l, x < n) → l.length ≤ n := by
  induction n with
  | zero =>
    intro l _ h
    cases l with
    | nil => simp
    | cons x t => exact absurd (h x List.mem_cons_self) (by omega)
  | succ n ih =>
    intro l hl h
    have h1 := ih (l.erase n) (hl.erase n) (fun x hx => by
      have h2 := h x (List.mem_of_mem_erase hx)
      have h3 : x ≠ n := fun e => by
        subst e
        exact (List.Nodup.not_mem_erase hl) hx
      omega)
    have h2 := List.length_erase (a := n) (l := l)
    split at h2 <;> omega
theorem FD_steps (w : List (List Int)) (hv : VW w) (hn : w.length ≤ 20) (a b : Nat) (ha : a < w.length) (hb : b < w.length) : (FD w a b).2 < w.length := by
  have I := inv_FW w hv w.length (Nat.le_refl _)
  have h0 := (I.nn a b ha hb).2
  obtain ⟨l, h1, h2, h3⟩ := pth_len w hv hn b hb (FD w a b).2.toNat a ha (by unfold FD; omega)
  have := nodup_lt w.length l h3 (fun x hx => (h2 x hx).1)
  omega

section
variable (w : List (List Int)) (hv : VW w) (hn : w.length ≤ 20) (b : Nat) (hb : b < w.length)
include hv hn hb
theorem far_l2 (m : List (List Int)) (k : Nat) (hk : k < w.length) (hml : m.length = k) (hmr : ∀ j, j < k → (rd_L1 m (j : Int)).length = w.length ∧ ∀ c, c < w.length → W m j c = GB w b j c) (row : List Int) (a : Nat) (ha : a < w.length) (hrow : row.length ≤ 100) (R : List (List Int)) (hR : ∀ best, (k = 0 → best = if a = b then 0 else -1) → (0 < k → best = GB w b k a) → Ev (fun K => haulierref27_Far.l1 K w (b : Int) m (k : Int) (row ++ [best]) ((a : Int) + 1)) R) (d : Nat) : ∀ (i : Nat) (best : Int), i + d = w.length → (k = 0 → best = if a = b then 0 else -1) → (-1 ≤ best ∧ best ≤ 10080 * 100) → (0 < k → best = (List.range i).foldl (stB w a (GB w b (k - 1))) (-1)) → Ev (fun K => haulierref27_Far.l2 K w (b : Int) m (k : Int) row (a : Int) best (i : Int)) R := by
  induction d with
  | zero =>
    intro i best hi h0 hbb h1
    have hiw : i = w.length := by omega
    refine ev_succ ?_
    simp only [haulierref27_Far.l2]
    have fin : Ev (fun K => haulierref27_Far.j5 K w (b : Int) m (k : Int) row (a : Int) best (i : Int) false) R := by
      refine ev_succ ?_
      simp only [haulierref27_Far.j5, if_neg (show ¬ false = true by simp), if_pos (show row.length < 17592186044416 by omega), w64 (x := (a : Int) + 1) (by omega) (by omega)]
      refine hR best h0 (fun hk0 => ?_)
      rw [h1 hk0, hiw]
      obtain ⟨k', rfl⟩ : ∃ k', k = k' + 1 := ⟨k - 1, by omega⟩
      rfl
    by_cases hk0 : (k : Int) > 0
    · simp only [if_pos hk0, decide_eq_false (show ¬ (i : Int) < (w.length : Int) by omega)]
      exact fin
    · simp only [if_neg hk0]
      exact fin
  | succ d ih =>
    intro i best hi h0 hbb h1
    refine ev_succ ?_
    simp only [haulierref27_Far.l2]
    by_cases hk0 : (k : Int) > 0
    · have hiw : i < w.length := by omega
      have hr := hmr (k - 1) (by omega)
      have hg := GB_ok w hv b hb (k - 1) i hiw
      have hW := W_hi w hv a i ha hiw
      have ekk : ((k : Int) - 1) = ((k - 1 : Nat) : Int) := by omega
      have hgw : rd (rd_L1 m ((k - 1 : Nat) : Int)) (i : Int) = GB w b (k - 1) i := hr.2 i hiw
      have hgb : GB w b (k - 1) i ≤ 10080 * 20 := by have := hg.2.1; omega
      have hstep : (List.range (i + 1)).foldl (stB w a (GB w b (k - 1))) (-1) = stB w a (GB w b (k - 1)) best i := by
        rw [List.range_succ, List.foldl_append, ← h1 (by omega)]
        rfl
      have h2 := ih (i + 1) (stB w a (GB w b (k - 1)) best i) (by omega) (fun e => by omega) (by unfold stB W; split <;> omega) (fun _ => hstep.symm)
      rw [show (((i + 1 : Nat) : Int)) = (i : Int) + 1 by omega] at h2
      simp only [if_pos hk0, decide_eq_true (show (i : Int) < (w.length : Int) by omega)]
      refine ev_succ ?_
      simp only [haulierref27_Far.j5, if_true, ekk, w64 (x := ((k - 1 : Nat) : Int)) (by omega) (by omega), if_pos (show (0 : Int) ≤ ((k - 1 : Nat) : Int) by omega), hml, if_pos (show ((k - 1 : Nat) : Int) < (k : Int) by omega), if_pos (show (0 : Int) ≤ (i : Int) by omega), hr.1, if_pos (show (i : Int) < (w.length : Int) by omega), hgw, if_pos (show (0 : Int) ≤ (a : Int) by omega), if_pos (show (a : Int) < (w.length : Int) by omega), hv.rows a ha, w64 (x := (i : Int) + 1) (by omega) (by omega), w64 (x := rd (rd_L1 w (a : Int)) (i : Int) + GB w b (k - 1) i) (by omega) (by omega)]
      unfold stB W at h2
      by_cases g0 : GB w b (k - 1) i ≥ 0
      · simp only [if_pos g0]
        by_cases g1 : best < 0
        · rw [if_pos ⟨g0, Or.inl g1⟩] at h2
          simp only [if_pos g1]
          exact h2
        · simp only [if_neg g1]
          by_cases g2 : rd (rd_L1 w (a : Int)) (i : Int) + GB w b (k - 1) i < best
          · rw [if_pos ⟨g0, Or.inr g2⟩] at h2
            simp only [if_pos g2]
            exact h2
          · rw [if_neg (by omega)] at h2
            simp only [if_neg g2]
            exact h2
      · rw [if_neg (by omega)] at h2
        simp only [if_neg g0]
        exact h2
    · simp only [if_neg hk0]
      refine ev_succ ?_
      simp only [haulierref27_Far.j5, if_neg (show ¬ false = true by simp), if_pos (show row.length < 17592186044416 by omega), w64 (x := (a : Int) + 1) (by omega) (by omega)]
      exact hR best h0 (fun h => by omega)
end

def rowG (w : List (List Int)) (b k i : Nat) : List Int := (List.range i).map (GB w b k)
def farM (w : List (List Int)) (b i : Nat) : List (List Int) := (List.range i).map (fun k => rowG w b k w.length)
theorem rowG_rd (w : List (List Int)) (b k i c : Nat) (h : c < i) : rd (rowG w b k i) (c : Int) = GB w b k c := by
  unfold rowG rd
  simp [h]
theorem farM_row (w : List (List Int)) (b i j : Nat) (h : j < i) : rd_L1 (farM w b i) (j : Int) = rowG w b j w.length := by
  unfold farM rd_L1
  simp [h]
theorem rowG_len (w : List (List Int)) (b k i : Nat) : (rowG w b k i).length = i := by simp [rowG]
theorem farM_len (w : List (List Int)) (b i : Nat) : (farM w b i).length = i := by simp [farM]
theorem rowG_succ (w : List (List Int)) (b k i : Nat) : rowG w b k (i + 1) = rowG w b k i ++ [GB w b k i] := by simp [rowG, List.range_succ]
theorem farM_succ (w : List (List Int)) (b i : Nat) : farM w b (i + 1) = farM w b i ++ [rowG w b i w.length] := by simp [farM, List.range_succ]
section
variable (w : List (List Int)) (hv : VW w) (hn : w.length ≤ 20) (b : Nat) (hb : b < w.length)
include hv hn hb
theorem far_l1 (k : Nat) (hk : k < w.length) (R : List (List Int)) (hR : Ev (fun K => haulierref27_Far.l0 K w (b : Int) (farM w b (k + 1)) ((k : Int) + 1)) R) (d : Nat) : ∀ (i : Nat), i + d = w.length → Ev (fun K => haulierref27_Far.l1 K w (b : Int) (farM w b k) (k : Int) (rowG w b k i) (i : Int)) R := by
  induction d with
  | zero =>
    intro i hi
    have hiw : i = w.length := by omega
    subst hiw
    refine ev_succ ?_
    simp only [haulierref27_Far.l1, if_neg (show ¬ (w.length : Int) < (w.length : Int) by omega), farM_len, if_pos (show k < 5864062014805 by omega), w64 (x := (k : Int) + 1) (by omega) (by omega), ← farM_succ]
    exact hR
  | succ d ih =>
    intro i hi
    have h := ih (i + 1) (by omega)
    rw [rowG_succ, show (((i + 1 : Nat) : Int)) = (i : Int) + 1 by omega] at h
    have L2 : ∀ best, (k = 0 → best = if i = b then 0 else -1) → (0 < k → best = -1) → Ev (fun K => haulierref27_Far.l2 K w (b : Int) (farM w b k) (k : Int) (rowG w b k i) (i : Int) best 0) R := by
      intro best h0 h1
      have := far_l2 w hv hn b hb (farM w b k) k hk (farM_len w b k) (fun j hj => by
        rw [farM_row w b k j hj]
        refine ⟨rowG_len w b j w.length, fun c hc => ?_⟩
        unfold W
        rw [farM_row w b k j hj, rowG_rd w b j w.length c hc]) (rowG w b k i) i (by omega) (by rw [rowG_len]; omega) R (fun best hb0 hb1 => by
        have e : best = GB w b k i := by
          by_cases hk0 : k = 0
          · rw [hb0 hk0]
            subst hk0
            rfl
          · exact hb1 (by omega)
        rw [e]
        exact h) w.length 0 best (by omega) h0 (by
        by_cases hk0 : k = 0
        · rw [h0 hk0]; split <;> omega
        · rw [h1 (by omega)]; omega) (fun hk0 => by rw [h1 hk0]; rfl)
      exact this
    have J2 : ∀ z : Bool, (z = true ↔ k = 0 ∧ i = b) → Ev (fun K => haulierref27_Far.j2 K w (b : Int) (farM w b k) (k : Int) (rowG w b k i) (i : Int) (-1) z) R := by
      intro z hz
      refine ev_succ ?_
      simp only [haulierref27_Far.j2]
      by_cases hzt : z = true
      · simp only [if_pos hzt]
        refine ev_succ ?_
        simp only [haulierref27_Far.j3]
        exact L2 0 (fun _ => by rw [if_pos (hz.1 hzt).2]) (fun h => by have := (hz.1 hzt).1; omega)
      · simp only [if_neg hzt]
        refine ev_succ ?_
        simp only [haulierref27_Far.j3]
        exact L2 (-1) (fun h0 => by rw [if_neg (fun e => hzt (hz.2 ⟨h0, e⟩))]) (fun _ => rfl)
    refine ev_succ ?_
    simp only [haulierref27_Far.l1, if_pos (show (i : Int) < (w.length : Int) by omega)]
    by_cases hk0 : (k : Int) = 0
    · simp only [if_pos hk0]
      exact J2 _ (by simp; omega)
    · simp only [if_neg hk0]
      exact J2 _ (by simp; omega)
theorem far_l0 (d : Nat) : ∀ (k : Nat), k + d = w.length → Ev (fun K => haulierref27_Far.l0 K w (b : Int) (farM w b k) (k : Int)) (farM w b w.length) := by
  induction d with
  | zero =>
    intro k hk
    have : k = w.length := by omega
    subst this
    refine ev_succ ?_
    simp only [haulierref27_Far.l0, if_neg (show ¬ (w.length : Int) < (w.length : Int) by omega)]
    exact Ev.now _
  | succ d ih =>
    intro k hk
    have h := ih (k + 1) (by omega)
    rw [show (((k + 1 : Nat) : Int)) = (k : Int) + 1 by omega] at h
    refine ev_succ ?_
    simp only [haulierref27_Far.l0, if_pos (show (k : Int) < (w.length : Int) by omega)]
    exact far_l1 w hv hn b hb k (by omega) _ h w.length 0 (by omega)
theorem far_f : Ev (fun K => haulierref27_Far.f K w (b : Int)) (farM w b w.length) := by
  unfold haulierref27_Far.f
  exact far_l0 w hv hn b hb w.length 0 (by omega)
theorem steps_l0 (a : Nat) (ha : a < w.length) (d : Nat) : ∀ (i : Nat) (at_ best : Int), i + d = w.length → ((best = -1 ∧ (∀ k, k < i → GB w b k a < 0)) ∨ (0 ≤ best ∧ ∃ k0 : Nat, k0 < i ∧ at_ = k0 ∧ GB w b k0 a = best ∧ (∀ k, k < i → 0 ≤ GB w b k a → lle (best, at_) (GB w b k a, (k : Int))))) → Ev (fun K => haulierref27_Steps.l0 K (farM w b w.length) (a : Int) at_ best (i : Int)) ((FD w a b).2, (FD w a b).1) := by
  have I := inv_FW w hv w.length (Nat.le_refl _)
  have hst := FD_steps w hv hn a b ha hb
  have hnn := I.nn a b ha hb
  induction d with
  | zero =>
    intro i at_ best hi h
    have hreal := I.real a b ha hb
    have hk := GB_ok w hv b hb (FD w a b).2.toNat a ha
    have e : (((FD w a b).2.toNat : Nat) : Int) = (FD w a b).2 := by unfold FD; omega
    have hg := hk.2.2.2 (FD w a b).1 (by rw [e]; exact hreal)
    have hlow := FD_least w hv (hk.2.2.1 hg.1) hb
    rw [e] at hlow
    have hres : (at_, best) = ((FD w a b).2, (FD w a b).1) := by
      rcases h with ⟨_, h2⟩ | ⟨h1, k0, hk0, h3, h4, h5⟩
      · have := h2 (FD w a b).2.toNat (by unfold FD at hst ⊢; omega)
        omega
      · have h6 := h5 (FD w a b).2.toNat (by unfold FD at hst ⊢; omega) hg.1
        rw [e] at h6
        have h7 := FD_least w hv ((GB_ok w hv b hb k0 a ha).2.2.1 (by omega)) hb
        rw [h4, ← h3] at h7
        unfold lle at hlow h6 h7
        simp only at hlow h6 h7
        exact Prod.ext (by simp only; omega) (by simp only; omega)
    refine ev_succ ?_
    simp only [haulierref27_Steps.l0, farM_len, if_neg (show ¬ (i : Int) < (w.length : Int) by omega), hres]
    exact Ev.now _
  | succ d ih =>
    intro i at_ best hi h
    have hiw : i < w.length := by omega
    have hg : rd (rd_L1 (farM w b w.length) (i : Int)) (a : Int) = GB w b i a := by rw [farM_row w b w.length i hiw, rowG_rd w b i w.length a ha]
    have hm1 := (GB_ok w hv b hb i a ha).1
    have next : ∀ at2 best2 : Int, ((best2 = -1 ∧ (∀ k, k < i + 1 → GB w b k a < 0)) ∨ (0 ≤ best2 ∧ ∃ k0 : Nat, k0 < i + 1 ∧ at2 = k0 ∧ GB w b k0 a = best2 ∧ (∀ k, k < i + 1 → 0 ≤ GB w b k a → lle (best2, at2) (GB w b k a, (k : Int))))) → Ev (fun K => haulierref27_Steps.l0 K (farM w b w.length) (a : Int) at2 best2 ((i : Int) + 1)) ((FD w a b).2, (FD w a b).1) := by
      intro at2 best2 h2
      have := ih (i + 1) at2 best2 (by omega) h2
      rwa [show (((i + 1 : Nat) : Int)) = (i : Int) + 1 by omega] at this
    refine ev_succ ?_
    simp only [haulierref27_Steps.l0, farM_len, if_pos (show (i : Int) < (w.length : Int) by omega), if_pos (show (0 : Int) ≤ (i : Int) by omega), if_pos (show (0 : Int) ≤ (a : Int) by omega), farM_row w b w.length i hiw, rowG_len, if_pos (show (a : Int) < (w.length : Int) by omega), rowG_rd w b i w.length a ha, w64 (x := (i : Int) + 1) (by omega) (by omega)]
    by_cases g0 : GB w b i a ≥ 0
    · simp only [if_pos g0]
      have take : (∀ k, k < i → 0 ≤ GB w b k a → GB w b i a < GB w b k a) → Ev (fun K => haulierref27_Steps.l0 K (farM w b w.length) (a : Int) (i : Int) (GB w b i a) ((i : Int) + 1)) ((FD w a b).2, (FD w a b).1) := by
        intro hlt
        refine next _ _ (Or.inr ⟨g0, i, by omega, rfl, rfl, fun k hk hk0 => ?_⟩)
        by_cases e : k = i
        · subst e; exact lle_refl _
        · exact Or.inl (hlt k (by omega) hk0)
      by_cases g1 : best < 0
      · simp only [if_pos g1]
        rcases h with ⟨_, h2⟩ | ⟨h1, _⟩
        · exact take (fun k hk hk0 => by have := h2 k hk; omega)
        · omega
      · simp only [if_neg g1]
        rcases h with ⟨h1, _⟩ | ⟨h1, k0, hk0, h3, h4, h5⟩
        · omega
        · by_cases g2 : GB w b i a < best
          · simp only [if_pos g2]
            refine take (fun k hk hk1 => ?_)
            have := h5 k hk hk1
            unfold lle at this
            simp only at this
            omega
          · simp only [if_neg g2]
            refine next _ _ (Or.inr ⟨h1, k0, by omega, h3, h4, fun k hk hk1 => ?_⟩)
            by_cases e : k = i
            · subst e
              unfold lle
              simp only
              omega
            · exact h5 k (by omega) hk1
    · simp only [if_neg g0]
      refine next _ _ ?_
      rcases h with ⟨h1, h2⟩ | ⟨h1, k0, hk0, h3, h4, h5⟩
      · refine Or.inl ⟨h1, fun k hk => ?_⟩
        by_cases e : k = i
        · subst e; omega
        · exact h2 k (by omega)
      · refine Or.inr ⟨h1, k0, by omega, h3, h4, fun k hk hk1 => ?_⟩
        by_cases e : k = i
        · subst e; omega
        · exact h5 k (by omega) hk1
theorem steps_f (a : Nat) (ha : a < w.length) : Ev (fun K => haulierref27_Steps.f K (farM w b w.length) (a : Int)) ((FD w a b).2, (FD w a b).1) := by
  unfold haulierref27_Steps.f
  exact steps_l0 w hv hn b hb a ha w.length 0 0 (-1) (by omega) (Or.inl ⟨rfl, fun k hk => by omega⟩)
end

def Fit (w : List (List Int)) (a b x : Nat) : Prop := ad (W w a x, 1) (FD w x b) = FD w a b
def IsP (w : List (List Int)) (b : Nat) : Nat → List Nat → Prop
  | a, [] => a = b
  | a, x :: t => a ≠ b ∧ Fit w a b x ∧ (∀ y, y < x → ¬ Fit w a b y) ∧ IsP w b x t
theorem isP_uniq (w : List (List Int)) (b : Nat) : ∀ (l l' : List Nat) (a : Nat), IsP w b a l → IsP w b a l' → l = l' := by
  intro l
  induction l with
  | nil =>
    intro l' a h h'
    cases l' with
    | nil => rfl
    | cons y t => exact absurd h h'.1
  | cons x t ih =>
    intro l' a h h'
    cases l' with
    | nil => exact absurd h' h.1
    | cons y t' =>
      obtain ⟨_, h1, h2, h3⟩ := h
      obtain ⟨_, k1, k2, k3⟩ := h'
      have e : x = y := by
        rcases Nat.lt_trichotomy x y with g | g | g
        · exact absurd h1 (k2 x g)
        · exact g
        · exact absurd k1 (h2 y g)
      subst e
      rw [ih t' x h3 k3]
theorem nextx2 (w : List (List Int)) (hv : VW w) (hn : w.length ≤ 20) (m : List (List S50)) (hm : Rep m w.length (FD w)) (a b : Nat) (ha : a < w.length) (hb : b < w.length) (out : List Int) (hout : out.length ≤ 10000000) (d : Nat) : ∀ i : Nat, i + d = w.length → (∃ x, i ≤ x ∧ x < w.length ∧ ad (W w a x, 1) (FD w x b) = FD w a b) → ∃ x, x < w.length ∧ ad (W w a x, 1) (FD w x b) = FD w a b ∧ (∀ y, i ≤ y → y < x → ¬ Fit w a b y) ∧ ∀ R, Ev (fun k => chart_Path.l0 k w (x : Int) (b : Int) m (out ++ [(x : Int)])) R → Ev (fun k => chart_Path.l1 k w (a : Int) (b : Int) m out (i : Int)) R := by
  have I := inv_FW w hv w.length (Nat.le_refl _)
  have hp := pow20 w.length (by omega)
  induction d with
  | zero => intro i hi h; obtain ⟨x, h1, h2, _⟩ := h; omega
  | succ d ih =>
    intro i hi h
    have hiw : i < w.length := by omega
    have b1 := I.hi i b hiw hb
    have b2 := I.nn i b hiw hb
    have b3 := W_hi w hv a i ha hiw
    have q1 : rd_T50 (rd_L3 m (i : Int)) (b : Int) = ⟨(FD w i b).1, (FD w i b).2⟩ := by rw [← hm.ent i b hiw hb]; rfl
    have q2 : rd_T50 (rd_L3 m (a : Int)) (b : Int) = ⟨(FD w a b).1, (FD w a b).2⟩ := by rw [← hm.ent a b ha hb]; rfl
    have hand : chart_leg_and.f (rd (rd_L1 w (a : Int)) (i : Int)) 1 (FD w i b).1 (FD w i b).2 = some (ad (W w a i, 1) (FD w i b)) := and_f _ _ _ _ (by omega) (by omega) (by unfold FD; omega) (by unfold FD; omega)
    have walk : ∀ R, (Ev (fun k => if (!((ad (W w a i, 1) (FD w i b)).1 == (FD w a b).1) || (!((ad (W w a i, 1) (FD w i b)).2 == (FD w a b).2))) = true then (chart_Path.l1 k w (a : Int) (b : Int) m out ((i : Int) + 1)) else (chart_Path.l0 k w (i : Int) (b : Int) m (out ++ [(i : Int)]))) R) → Ev (fun k => chart_Path.l1 k w (a : Int) (b : Int) m out (i : Int)) R := by
      intro R hR
      refine ev_succ ?_
      simp only [chart_Path.l1, if_pos (show (0 : Int) ≤ (a : Int) by omega), if_pos (show (a : Int) < (w.length : Int) by omega), if_pos (show (0 : Int) ≤ (i : Int) by omega), hv.rows a ha, if_pos (show (i : Int) < (w.length : Int) by omega), hm.len, if_pos (show (0 : Int) ≤ (b : Int) by omega), hm.rows i hiw, hm.rows a ha, if_pos (show (b : Int) < (w.length : Int) by omega), q1, q2, hand, Option.bind_some, w64 (x := (i : Int) + 1) (by omega) (by omega), if_pos (show out.length < 17592186044416 by omega)]
      exact hR
    by_cases he : ad (W w a i, 1) (FD w i b) = FD w a b
    · refine ⟨i, hiw, he, fun y h1 h2 => by omega, fun R hR => walk R ?_⟩
      rw [he]
      simp only [beq_self_eq_true, Bool.not_true, Bool.or_self, if_neg (show ¬ false = true by simp)]
      exact hR
    · obtain ⟨x, h1, h2, hle, h3⟩ := ih (i + 1) (by omega) (by
        obtain ⟨x, hx1, hx2, hx3⟩ := h
        refine ⟨x, ?_, hx2, hx3⟩
        by_cases h4 : x = i
        · subst h4; exact absurd hx3 he
        · omega)
      refine ⟨x, h1, h2, fun y hy1 hy2 => by
        by_cases e : y = i
        · subst e; exact he
        · exact hle y (by omega) hy2, fun R hR => walk R ?_⟩
      have hne : (!((ad (W w a i, 1) (FD w i b)).1 == (FD w a b).1) || (!((ad (W w a i, 1) (FD w i b)).2 == (FD w a b).2))) = true := by
        rw [Bool.or_eq_true]
        by_cases h4 : (ad (W w a i, 1) (FD w i b)).1 = (FD w a b).1
        · right
          have : ¬ (ad (W w a i, 1) (FD w i b)).2 = (FD w a b).2 := fun h5 => he (Prod.ext h4 h5)
          simp [this]
        · left
          simp [h4]
      simp only [hne, if_true]
      have := h3 R hR
      rwa [show (((i + 1 : Nat) : Int)) = (i : Int) + 1 by omega] at this
theorem path_l02 (w : List (List Int)) (hv : VW w) (hn : w.length ≤ 20) (m : List (List S50)) (hm : Rep m w.length (FD w)) (b : Nat) (hb : b < w.length) (s : Nat) : ∀ (a : Nat) (out : List Int), a < w.length → (FD w a b).2 = s → out.length + s ≤ 10000000 → ∃ l : List Nat, l.length = s ∧ IsP w b a l ∧ Ev (fun k => chart_Path.l0 k w (a : Int) (b : Int) m out) (out ++ l.map Int.ofNat, 0) := by
  have I := inv_FW w hv w.length (Nat.le_refl _)
  induction s with
  | zero =>
    intro a out ha hs hout
    have hab : a = b := by
      refine Classical.byContradiction fun h => ?_
      have := I.pos a b ha hb h
      unfold FD at hs
      omega
    subst hab
    have hd := I.diag a ha
    refine ⟨[], rfl, rfl, ev_succ ?_⟩
    · simp only [chart_Path.l0, if_true, List.map_nil, List.append_nil]
      exact Ev.now _
  | succ s ih =>
    intro a out ha hs hout
    have hab : a ≠ b := by
      intro h
      subst h
      have hd := I.diag a ha
      unfold FD at hs
      rw [hd] at hs
      simp at hs
      omega
    obtain ⟨x0, hx0, he0⟩ := FD_next w hv a b ha hb hab
    obtain ⟨x, hx, he, hle, hev⟩ := nextx2 w hv hn m hm a b ha hb out (by omega) w.length 0 (by omega) ⟨x0, by omega, hx0, he0⟩
    have hs2 : (FD w x b).2 = s := by
      have := congrArg Prod.snd he
      unfold ad at this
      simp only at this
      omega
    obtain ⟨l, h1, h2, h5⟩ := ih x (out ++ [(x : Int)]) hx hs2 (by simp; omega)
    refine ⟨x :: l, by simp [h1], ⟨hab, he, fun y hy => hle y (Nat.zero_le _) hy, h2⟩, ev_succ ?_⟩
    · simp only [chart_Path.l0, if_neg (show ¬ (a : Int) = (b : Int) by omega)]
      have := hev _ h5
      rw [List.append_assoc, List.singleton_append] at this
      exact this
theorem path_f2 (w : List (List Int)) (hv : VW w) (hn : w.length ≤ 20) (a b : Nat) (ha : a < w.length) (hb : b < w.length) : ∃ l : List Nat, (l.length : Int) = (FD w a b).2 ∧ IsP w b a l ∧ Ev (fun k => chart_Path.f k w (a : Int) (b : Int)) ((a : Int) :: l.map Int.ofNat, 0) := by
  have I := inv_FW w hv w.length (Nat.le_refl _)
  have hp20 := pow20 w.length (by omega)
  obtain ⟨m, hm, em⟩ := closed_f w hv hn
  have h0 := I.nn a b ha hb
  have h1 := I.hi a b ha hb
  obtain ⟨l, e1, e2, e5⟩ := path_l02 w hv hn m hm b hb (FD w a b).2.toNat a [(a : Int)] ha (by unfold FD; omega) (by unfold FD; simp; omega)
  refine ⟨l, by rw [e1]; unfold FD; omega, e2, ?_⟩
  unfold chart_Path.f
  have hp := places_f w [(a : Int), (b : Int)] (by simp)
  have : plS w [(a : Int), (b : Int)] = 0 := by
    unfold plS
    rw [if_pos ((chkW_ok w).2 hv), if_pos]
    simp
    omega
  rw [this] at hp
  refine Ev.bind hp ?_
  simp only [if_true]
  refine Ev.bind em ?_
  simpa using e5

theorem rd_set (r : List Int) (b y : Nat) (v : Int) (hb : b < r.length) : rd (r.set b v) (y : Int) = if y = b then v else rd r (y : Int) := by
  unfold rd
  simp only [Int.toNat_natCast, List.getD_eq_getElem?_getD, List.getElem?_set]
  by_cases h : y = b
  · subst h
    simp [hb]
  · rw [if_neg (fun e => h e.symm), if_neg h]
structure RC (w out : List (List Int)) (P : Nat → Nat → Prop) : Prop where
  len : out.length = w.length
  rows : ∀ a, a < w.length → (rd_L1 out (a : Int)).length = w.length
  ent : ∀ x y, x < w.length → y < w.length → P x y → W out x y = (FD w x y).1
theorem rclose_l0 (w : List (List Int)) (hn : w.length ≤ 20) (R : List (List Int)) (hR : Ev (fun k => haulierref27_Close.l1 k w (List.replicate w.length (List.replicate w.length 0)) 0) R) (d : Nat) : ∀ (i : Nat), i + d = w.length → Ev (fun k => haulierref27_Close.l0 k w (List.replicate i (List.replicate w.length 0)) (i : Int)) R := by
  induction d with
  | zero =>
    intro i hi
    have e : i = w.length := by omega
    subst e
    refine ev_succ ?_
    simp only [haulierref27_Close.l0, if_neg (show ¬ (w.length : Int) < (w.length : Int) by omega)]
    exact hR
  | succ d ih =>
    intro i hi
    have h := ih (i + 1) (by omega)
    rw [List.replicate_succ', show (((i + 1 : Nat) : Int)) = (i : Int) + 1 by omega] at h
    refine ev_succ ?_
    simp only [haulierref27_Close.l0, if_pos (show (i : Int) < (w.length : Int) by omega), if_pos (show (0 : Int) ≤ (w.length : Int) by omega), Int.toNat_natCast, if_pos (show w.length ≤ 35184372088832 by omega), List.length_replicate, if_pos (show i < 5864062014805 by omega), w64 (x := (i : Int) + 1) (by omega) (by omega)]
    exact h
section
variable (w : List (List Int)) (hv : VW w) (hn : w.length ≤ 20)
include hv hn
theorem rclose_l2 (b : Nat) (hb : b < w.length) (hP : ∀ out, RC w out (fun x y => y < b + 1) → ∃ R, RC w R (fun _ _ => True) ∧ Ev (fun k => haulierref27_Close.l1 k w out ((b : Int) + 1)) R) (d : Nat) : ∀ (i : Nat) (out : List (List Int)), i + d = w.length → RC w out (fun x y => y < b ∨ (y = b ∧ x < i)) → ∃ R, RC w R (fun _ _ => True) ∧ Ev (fun k => haulierref27_Close.l2 k w out (b : Int) (farM w b w.length) (i : Int)) R := by
  induction d with
  | zero =>
    intro i out hi hm
    obtain ⟨R, h1, h2⟩ := hP out ⟨hm.len, hm.rows, fun x y hx hy h => hm.ent x y hx hy (by omega)⟩
    refine ⟨R, h1, ev_succ ?_⟩
    simp only [haulierref27_Close.l2, if_neg (show ¬ (i : Int) < (w.length : Int) by omega), w64 (x := (b : Int) + 1) (by omega) (by omega)]
    exact h2
  | succ d ih =>
    intro i out hi hm
    have hiw : i < w.length := by omega
    have hl := hm.len
    have hr := hm.rows i hiw
    obtain ⟨R, h1, h2⟩ := ih (i + 1) (out.set i ((rd_L1 out (i : Int)).set b (FD w i b).1)) (by omega) ⟨by simp [hl], fun x hx => by
        rw [L1_set _ _ _ _ (by omega)]
        split
        · simp [hr]
        · exact hm.rows x hx, fun x y hx hy h => by
        unfold W
        rw [L1_set _ _ _ _ (by omega)]
        by_cases e : x = i
        · subst e
          rw [if_pos rfl, rd_set _ _ _ _ (by omega)]
          by_cases e2 : y = b
          · subst e2
            rw [if_pos rfl]
          · rw [if_neg e2]
            exact hm.ent x y hx hy (by omega)
        · rw [if_neg e]
          exact hm.ent x y hx hy (by omega)⟩
    refine ⟨R, h1, ev_succ ?_⟩
    rw [show (((i + 1 : Nat) : Int)) = (i : Int) + 1 by omega] at h2
    simp only [haulierref27_Close.l2, if_pos (show (i : Int) < (w.length : Int) by omega)]
    refine Ev.bind (steps_f w hv hn b hb i hiw) ?_
    simp only [if_pos (show (0 : Int) ≤ (i : Int) by omega), if_pos (show (0 : Int) ≤ (b : Int) by omega), hl, hr, if_pos (show (i : Int) < (w.length : Int) by omega), if_pos (show (b : Int) < (w.length : Int) by omega), w64 (x := (i : Int) + 1) (by omega) (by omega), Int.toNat_natCast]
    exact h2
theorem rclose_l1 (d : Nat) : ∀ (b : Nat) (out : List (List Int)), b + d = w.length → RC w out (fun x y => y < b) → ∃ R, RC w R (fun _ _ => True) ∧ Ev (fun k => haulierref27_Close.l1 k w out (b : Int)) R := by
  induction d with
  | zero =>
    intro b out hi hm
    refine ⟨out, ⟨hm.len, hm.rows, fun x y hx hy _ => hm.ent x y hx hy (by omega)⟩, ev_succ ?_⟩
    simp only [haulierref27_Close.l1, if_neg (show ¬ (b : Int) < (w.length : Int) by omega)]
    exact Ev.now _
  | succ d ih =>
    intro b out hi hm
    have hb : b < w.length := by omega
    obtain ⟨R, h1, h2⟩ := rclose_l2 w hv hn b hb (fun o ho => by
      have := ih (b + 1) o (by omega) ho
      rwa [show (((b + 1 : Nat) : Int)) = (b : Int) + 1 by omega] at this) w.length 0 out (by omega) ⟨hm.len, hm.rows, fun x y hx hy h => hm.ent x y hx hy (by omega)⟩
    refine ⟨R, h1, ev_succ ?_⟩
    simp only [haulierref27_Close.l1, if_pos (show (b : Int) < (w.length : Int) by omega)]
    exact Ev.bind (far_f w hv hn b hb) h2
theorem rclose_f : ∃ R, RC w R (fun _ _ => True) ∧ Ev (fun k => haulierref27_Close.f k w) R := by
  obtain ⟨R, h1, h2⟩ := rclose_l1 w hv hn w.length 0 (List.replicate w.length (List.replicate w.length 0)) (by omega) ⟨by simp, fun x hx => by
    unfold rd_L1
    simp [hx], fun x y hx hy h => by omega⟩
  refine ⟨R, h1, ?_⟩
  unfold haulierref27_Close.f
  exact rclose_l0 w hn R h2 w.length 0 (by omega)
end

section
variable (w : List (List Int)) (hv : VW w) (hn : w.length ≤ 20) (b : Nat) (hb : b < w.length)
include hv hb
theorem gbFD (a : Nat) (ha : a < w.length) (s : Nat) (hs : (FD w a b).2 = s) : GB w b s a = (FD w a b).1 := by
  have I := inv_FW w hv w.length (Nat.le_refl _)
  have hg := GB_ok w hv b hb s a ha
  have hr := I.real a b ha hb
  have h1 := hg.2.2.2 (FD w a b).1 (by rw [← hs]; exact hr)
  have h2 := FD_least w hv (hg.2.2.1 h1.1) hb
  unfold lle at h2
  simp only at h2
  omega
theorem fit_iff (a x : Nat) (ha : a < w.length) (hx : x < w.length) (s : Nat) (hs : (FD w a b).2 = (s : Int) + 1) : Fit w a b x ↔ 0 ≤ GB w b s x ∧ W w a x + GB w b s x = GB w b (s + 1) a := by
  have I := inv_FW w hv w.length (Nat.le_refl _)
  have hg := GB_ok w hv b hb s x hx
  have e1 := gbFD w hv b hb a ha (s + 1) (by rw [hs]; omega)
  have htri : lle (FD w a b) (ad (W w a x, 1) (FD w x b)) := lle_trans (I.tri x a b hx hx ha hb) (lle_ad (I.edge a x ha hx) (lle_refl _))
  rw [e1]
  unfold Fit
  constructor
  · intro h
    have h1 := congrArg Prod.fst h
    have h2 := congrArg Prod.snd h
    unfold ad at h1 h2
    simp only at h1 h2
    have e2 := gbFD w hv b hb x hx s (by omega)
    have n1 := I.nn x b hx hb
    rw [e2]
    unfold FD at h1 ⊢
    omega
  · rintro ⟨h1, h2⟩
    have h3 := FD_least w hv (hg.2.2.1 h1) hb
    have h4 := lle_ad (lle_refl (W w a x, (1 : Int))) h3
    refine lle_antisymm (lle_trans h4 ?_) htri
    unfold ad lle
    simp only
    omega
include hn
theorem rnext (a : Nat) (ha : a < w.length) (s : Nat) (hs : (FD w a b).2 = (s : Int) + 1) (out : List Int) (hout : out.length ≤ 10000) (d : Nat) : ∀ i : Nat, i + d = w.length → (∃ x, i ≤ x ∧ x < w.length ∧ Fit w a b x) → ∃ x, x < w.length ∧ Fit w a b x ∧ (∀ y, i ≤ y → y < x → ¬ Fit w a b y) ∧ ∀ R, Ev (fun k => haulierref27_Path.l0 k w (x : Int) (farM w b w.length) (s : Int) (out ++ [(x : Int)])) R → Ev (fun k => haulierref27_Path.l1 k w (a : Int) (farM w b w.length) ((s : Int) + 1) out (i : Int)) R := by
  have hst := FD_steps w hv hn a b ha hb
  induction d with
  | zero => intro i hi h; obtain ⟨x, h1, h2, _⟩ := h; omega
  | succ d ih =>
    intro i hi h
    have hiw : i < w.length := by omega
    have b3 := W_hi w hv a i ha hiw
    have hg := GB_ok w hv b hb s i hiw
    have hf := fit_iff w hv b hb a i ha hiw s hs
    have hG : GB w b s i ≤ 10080 * 20 := by have := hg.2.1; omega
    have eS : ((s : Int) + 1) = ((s + 1 : Nat) : Int) := by omega
    have eW : wrap64 (((s + 1 : Nat) : Int) - 1) = (s : Int) := (w64 (by omega) (by omega)).trans (by omega)
    have eG : wrap64 (rd (rd_L1 w (a : Int)) (i : Int) + GB w b s i) = W w a i + GB w b s i ∨ GB w b s i < 0 := by
      by_cases g : GB w b s i < 0
      · exact Or.inr g
      · exact Or.inl (w64 (by omega) (by omega))
    have walk : ∀ R, (Ev (fun k => if GB w b s i < 0 then (haulierref27_Path.l1 k w (a : Int) (farM w b w.length) ((s : Int) + 1) out ((i : Int) + 1)) else if W w a i + GB w b s i = GB w b (s + 1) a then haulierref27_Path.l0 k w (i : Int) (farM w b w.length) (s : Int) (out ++ [(i : Int)]) else (haulierref27_Path.l1 k w (a : Int) (farM w b w.length) ((s : Int) + 1) out ((i : Int) + 1))) R) → Ev (fun k => haulierref27_Path.l1 k w (a : Int) (farM w b w.length) ((s : Int) + 1) out (i : Int)) R := by
      intro R hR
      refine ev_succ ?_
      simp only [haulierref27_Path.l1, eS, eW, if_pos (show (0 : Int) ≤ (s : Int) by omega), farM_len, if_pos (show (s : Int) < (w.length : Int) by omega), if_pos (show (0 : Int) ≤ (i : Int) by omega), farM_row w b w.length s (by omega), rowG_len, if_pos (show (i : Int) < (w.length : Int) by omega), rowG_rd w b s w.length i hiw, if_pos (show (0 : Int) ≤ (a : Int) by omega), if_pos (show (a : Int) < (w.length : Int) by omega), hv.rows a ha, if_pos (show (0 : Int) ≤ ((s + 1 : Nat) : Int) by omega), if_pos (show ((s + 1 : Nat) : Int) < (w.length : Int) by omega), farM_row w b w.length (s + 1) (by omega), rowG_rd w b (s + 1) w.length a ha, if_pos (show out.length < 17592186044416 by omega), w64 (x := (i : Int) + 1) (by omega) (by omega)]
      rw [eS] at hR
      by_cases g : GB w b s i < 0
      · simp only [if_pos g] at hR ⊢
        exact hR
      · simp only [if_neg g, eG.resolve_right g] at hR ⊢
        exact hR
    by_cases he : Fit w a b i
    · refine ⟨i, hiw, he, fun y h1 h2 => by omega, fun R hR => walk R ?_⟩
      have h2 := hf.1 he
      simp only [if_neg (show ¬ GB w b s i < 0 by omega), if_pos h2.2]
      exact hR
    · obtain ⟨x, h1, h2, hle, h3⟩ := ih (i + 1) (by omega) (by
        obtain ⟨x, hx1, hx2, hx3⟩ := h
        refine ⟨x, ?_, hx2, hx3⟩
        by_cases h4 : x = i
        · subst h4; exact absurd hx3 he
        · omega)
      refine ⟨x, h1, h2, fun y hy1 hy2 => by
        by_cases e : y = i
        · subst e; exact he
        · exact hle y (by omega) hy2, fun R hR => walk R ?_⟩
      have := h3 R hR
      rw [show (((i + 1 : Nat) : Int)) = (i : Int) + 1 by omega] at this
      by_cases g : GB w b s i < 0
      · simp only [if_pos g]
        exact this
      · have h5 : ¬ W w a i + GB w b s i = GB w b (s + 1) a := fun h6 => he (hf.2 ⟨by omega, h6⟩)
        simp only [if_neg g, if_neg h5]
        exact this
theorem rpath_l0 (s : Nat) : ∀ (a : Nat) (out : List Int), a < w.length → (FD w a b).2 = s → out.length + s ≤ 10000 → ∃ l : List Nat, l.length = s ∧ IsP w b a l ∧ Ev (fun k => haulierref27_Path.l0 k w (a : Int) (farM w b w.length) (s : Int) out) (out ++ l.map Int.ofNat) := by
  have I := inv_FW w hv w.length (Nat.le_refl _)
  induction s with
  | zero =>
    intro a out ha hs hout
    have hab : a = b := by
      refine Classical.byContradiction fun h => ?_
      have := I.pos a b ha hb h
      unfold FD at hs
      omega
    subst hab
    refine ⟨[], rfl, rfl, ev_succ ?_⟩
    simp only [haulierref27_Path.l0, if_neg (show ¬ ((0 : Nat) : Int) > 0 by omega), List.map_nil, List.append_nil]
    exact Ev.now _
  | succ s ih =>
    intro a out ha hs hout
    have hab : a ≠ b := by
      intro h
      subst h
      have hd := I.diag a ha
      unfold FD at hs
      rw [hd] at hs
      simp at hs
      omega
    obtain ⟨x0, hx0, he0⟩ := FD_next w hv a b ha hb hab
    obtain ⟨x, hx, he, hle, hev⟩ := rnext w hv hn b hb a ha s (by rw [hs]; omega) out (by omega) w.length 0 (by omega) ⟨x0, by omega, hx0, he0⟩
    have hs2 : (FD w x b).2 = s := by
      have := congrArg Prod.snd he
      unfold ad at this
      simp only at this
      omega
    obtain ⟨l, h1, h2, h5⟩ := ih x (out ++ [(x : Int)]) hx hs2 (by simp; omega)
    refine ⟨x :: l, by simp [h1], ⟨hab, he, fun y hy => hle y (Nat.zero_le _) hy, h2⟩, ev_succ ?_⟩
    have := hev _ h5
    rw [List.append_assoc, List.singleton_append] at this
    rw [show (((s + 1 : Nat) : Int)) = (s : Int) + 1 by omega]
    simp only [haulierref27_Path.l0, if_pos (show (s : Int) + 1 > 0 by omega)]
    exact this
theorem rpath_f (a : Nat) (ha : a < w.length) : ∃ l : List Nat, IsP w b a l ∧ Ev (fun k => haulierref27_Path.f k w (a : Int) (b : Int)) ((a : Int) :: l.map Int.ofNat) := by
  have I := inv_FW w hv w.length (Nat.le_refl _)
  have hst := FD_steps w hv hn a b ha hb
  have h0 := (I.nn a b ha hb).2
  have e : (FD w a b).2 = (((FD w a b).2.toNat : Nat) : Int) := by unfold FD; omega
  obtain ⟨l, _, h2, h3⟩ := rpath_l0 w hv hn b hb (FD w a b).2.toNat a [(a : Int)] ha e (by simp; omega)
  refine ⟨l, h2, ?_⟩
  unfold haulierref27_Path.f
  refine Ev.bind (far_f w hv hn b hb) (Ev.bind (steps_f w hv hn b hb a ha) ?_)
  rw [← e] at h3
  simpa using h3
end

theorem same_l1 (x y : List (List Int)) (n : Nat) (hn : n ≤ 200) (hx : x.length = n) (hy : y.length = n) (a : Nat) (ha : a < n) (hxa : (rd_L1 x (a : Int)).length = n) (hya : (rd_L1 y (a : Int)).length = n) (r : Bool) (hr : Ev (fun k => haulierref27_Same.l0 k x y ((a : Int) + 1)) r) (d : Nat) : ∀ i : Nat, i + d = n → ∀ s : Bool, (s = true ↔ (∀ b, i ≤ b → b < n → W x a b = W y a b) ∧ r = true) → Ev (fun k => haulierref27_Same.l1 k x y (a : Int) (i : Int)) s := by
  induction d with
  | zero =>
    intro i hi s hs
    have : s = r := by
      rw [Bool.eq_iff_iff, hs]
      exact ⟨fun h => h.2, fun h => ⟨fun b h1 h2 => by omega, h⟩⟩
    subst this
    refine ev_succ ?_
    simp only [haulierref27_Same.l1, if_pos (show (0 : Int) ≤ (a : Int) by omega), hx, hxa, if_pos (show (a : Int) < (n : Int) by omega), if_neg (show ¬ (i : Int) < (n : Int) by omega), w64 (x := (a : Int) + 1) (by omega) (by omega)]
    exact hr
  | succ d ih =>
    intro i hi s hs
    refine ev_succ ?_
    simp only [haulierref27_Same.l1, if_pos (show (0 : Int) ≤ (a : Int) by omega), hx, hxa, hy, hya, if_pos (show (a : Int) < (n : Int) by omega), if_pos (show (i : Int) < (n : Int) by omega), if_pos (show (0 : Int) ≤ (i : Int) by omega), w64 (x := (i : Int) + 1) (by omega) (by omega)]
    by_cases h0 : rd (rd_L1 x (a : Int)) (i : Int) = rd (rd_L1 y (a : Int)) (i : Int)
    · simp only [if_pos h0]
      have := ih (i + 1) (by omega) s (by
        rw [hs]
        constructor
        · exact fun h => ⟨fun b h1 h2 => h.1 b (by omega) h2, h.2⟩
        · refine fun h => ⟨fun b h1 h2 => ?_, h.2⟩
          by_cases h3 : b = i
          · subst h3
            exact h0
          · exact h.1 b (by omega) h2)
      rwa [show (((i + 1 : Nat) : Int)) = (i : Int) + 1 by omega] at this
    · simp only [if_neg h0]
      have : s = false := by
        rw [Bool.eq_false_iff]
        exact fun h => h0 ((hs.1 h).1 i (by omega) (by omega))
      subst this
      exact Ev.now _
theorem same_l0 (x y : List (List Int)) (n : Nat) (hn : n ≤ 200) (hx : x.length = n) (hy : y.length = n) (hxr : ∀ a, a < n → (rd_L1 x (a : Int)).length = n) (hyr : ∀ a, a < n → (rd_L1 y (a : Int)).length = n) (d : Nat) : ∀ i : Nat, i + d = n → ∀ s : Bool, (s = true ↔ ∀ a, i ≤ a → a < n → ∀ b, b < n → W x a b = W y a b) → Ev (fun k => haulierref27_Same.l0 k x y (i : Int)) s := by
  induction d with
  | zero =>
    intro i hi s hs
    have : s = true := hs.2 (fun a h1 h2 => by omega)
    subst this
    refine ev_succ ?_
    simp only [haulierref27_Same.l0, hx, if_neg (show ¬ (i : Int) < (n : Int) by omega)]
    exact Ev.now _
  | succ d ih =>
    intro i hi s hs
    classical
    have h1 := ih (i + 1) (by omega) (decide (∀ a, i + 1 ≤ a → a < n → ∀ b, b < n → W x a b = W y a b)) decide_eq_true_iff
    rw [show (((i + 1 : Nat) : Int)) = (i : Int) + 1 by omega] at h1
    have h2 := same_l1 x y n hn hx hy i (by omega) (hxr i (by omega)) (hyr i (by omega)) _ h1 n 0 (by omega) s (by
      rw [hs, decide_eq_true_iff]
      constructor
      · exact fun h => ⟨fun b _ hb => h i (by omega) (by omega) b hb, fun a h3 h4 => h a (by omega) h4⟩
      · refine fun h a h3 h4 b hb => ?_
        by_cases h5 : a = i
        · subst h5
          exact h.1 b (by omega) hb
        · exact h.2 a (by omega) h4 b hb)
    refine ev_succ ?_
    simp only [haulierref27_Same.l0, hx, hy, if_pos (show (i : Int) < (n : Int) by omega), if_pos (show (0 : Int) ≤ (i : Int) by omega), hxr i (by omega), hyr i (by omega), if_true]
    exact h2
theorem same_f (x y : List (List Int)) (n : Nat) (hn : n ≤ 200) (hx : x.length = n) (hy : y.length = n) (hxr : ∀ a, a < n → (rd_L1 x (a : Int)).length = n) (hyr : ∀ a, a < n → (rd_L1 y (a : Int)).length = n) (s : Bool) (hs : s = true ↔ ∀ a, a < n → ∀ b, b < n → W x a b = W y a b) : Ev (fun k => haulierref27_Same.f k x y) s := by
  unfold haulierref27_Same.f
  simp only [hx, hy, if_true]
  exact same_l0 x y n hn hx hy hxr hyr n 0 (by omega) s (by rw [hs]; exact ⟨fun h a _ ha b hb => h a ha b hb, fun h a ha b hb => h a (by omega) ha b hb⟩)

theorem lsame_l0 (l : List Int) (hl : l.length ≤ 100000) (m : List Int) (hm : l.length = m.length) (e : l = m) (d : Nat) : ∀ (i : Nat), i + d = l.length → Ev (fun k => haulierref07_Same.l0 k l m (i : Int)) true := by
  subst e
  induction d with
  | zero =>
    intro i hi
    refine ev_succ ?_
    simp only [haulierref07_Same.l0, if_neg (show ¬ (i : Int) < (l.length : Int) by omega)]
    exact Ev.now _
  | succ d ih =>
    intro i hi
    have h := ih (i + 1) (by omega)
    rw [show (((i + 1 : Nat) : Int)) = (i : Int) + 1 by omega] at h
    refine ev_succ ?_
    simp only [haulierref07_Same.l0, if_pos (show (i : Int) < (l.length : Int) by omega), if_pos (show (0 : Int) ≤ (i : Int) by omega), if_true, w64 (x := (i : Int) + 1) (by omega) (by omega)]
    exact h
theorem lsame_f (l : List Int) (hl : l.length ≤ 100000) : Ev (fun k => haulierref07_Same.f k l l) true := by
  unfold haulierref07_Same.f
  simp only [if_true]
  exact lsame_l0 l hl l rfl rfl l.length 0 (by omega)

theorem place_f (w : List (List Int)) (a : Int) : haulierref27_Place.f w a = some (decide (0 ≤ a ∧ a < w.length)) := by
  unfold haulierref27_Place.f
  by_cases h : a ≥ 0
  · rw [if_pos h]
    simp [h]
  · rw [if_neg h]
    simp
    omega
theorem light_len (w : List (List Int)) (m : Int) (h : lightS w m = true) : (w.length : Int) ≤ m := by
  unfold lightS at h
  rw [Bool.and_eq_true] at h
  exact of_decide_eq_true h.1
theorem close_bad (w : List (List Int)) (h : (chkW w).2.2 ≠ 0) : Ev (fun k => chart_Close.f k w) ([], (chkW w).2.2) := by
  unfold chart_Close.f
  have hp := places_f w [] (by simp)
  have : plS w [] = (chkW w).2.2 := by unfold plS; rw [if_neg h]
  rw [this] at hp
  refine Ev.bind hp ?_
  simp only [if_neg h]
  exact Ev.now _
theorem path_bad (w : List (List Int)) (a b : Int) (h : plS w [a, b] ≠ 0) : Ev (fun k => chart_Path.f k w a b) ([], plS w [a, b]) := by
  unfold chart_Path.f
  refine Ev.bind (places_f w [a, b] (by simp)) ?_
  simp only [if_neg h]
  exact Ev.now _
def inW (w : List (List Int)) (a : Int) : Prop := 0 ≤ a ∧ a < w.length
theorem cs_j1 (w : List (List Int)) (hv : VW w) (hn : w.length ≤ 20) (a b : Int) (l : List Int) (e : Int) (z : Bool) (hz : z = true → l = [] ∧ e = 10) (hz2 : z = false → e = 0 ∧ l.length ≤ 100000 ∧ Ev (fun k => haulierref27_Path.f k w a b) l) : Ev (fun k => haulierlaw27_ChartCloses.j1 k w a b l e z) true := by
  refine ev_succ ?_
  simp only [haulierlaw27_ChartCloses.j1]
  by_cases h : z = true
  · obtain ⟨h1, h2⟩ := hz h
    subst h1 h2
    simp only [if_pos h, List.length_nil, Int.natCast_zero, if_true]
    exact Ev.bind chalive_f (Ev.now _)
  · obtain ⟨h1, h2, h3⟩ := hz2 (by simpa using h)
    subst h1
    simp only [if_neg h, if_true]
    refine Ev.bind h3 (Ev.bind (lsame_f l h2) ?_)
    simp only [if_true]
    exact Ev.bind chalive_f (Ev.now _)
theorem cs_j0 (w : List (List Int)) (hv : VW w) (hn : w.length ≤ 20) (a b : Int) (l : List Int) (e : Int) (hz : ¬ (inW w a ∧ inW w b) → l = [] ∧ e = 10) (hz2 : inW w a ∧ inW w b → e = 0 ∧ l.length ≤ 100000 ∧ Ev (fun k => haulierref27_Path.f k w a b) l) : Ev (fun k => haulierlaw27_ChartCloses.j0 k w a b l e false) true := by
  refine ev_succ ?_
  simp only [haulierlaw27_ChartCloses.j0, if_neg (show ¬ false = true by simp), place_f, Option.bind_some]
  by_cases ha : 0 ≤ a ∧ a < (w.length : Int)
  · simp only [decide_eq_true ha, if_true]
    by_cases hb : 0 ≤ b ∧ b < (w.length : Int)
    · simp only [decide_eq_true hb]
      exact cs_j1 w hv hn a b l e _ (by simp) (fun _ => hz2 ⟨ha, hb⟩)
    · simp only [decide_eq_false hb]
      exact cs_j1 w hv hn a b l e _ (fun _ => hz (fun h => hb h.2)) (by simp)
  · simp only [decide_eq_false ha, if_neg (show ¬ false = true by simp)]
    exact cs_j1 w hv hn a b l e _ (fun _ => hz (fun h => ha h.1)) (by simp)
theorem ChartCloses : haulierlaw27_ChartCloses.Pure := by
  intro w a b hw _ _ _
  refine Ev.rounds ?_
  unfold haulierlaw27_ChartCloses.f
  refine Ev.bind (light_f w hw 9) ?_
  by_cases hL : lightS w 9 = true
  · have hn9 := light_len w 9 hL
    simp only [if_pos hL]
    by_cases hc : (chkW w).2.2 = 0
    · have hv := (chkW_ok w).1 hc
      have hn : w.length ≤ 20 := by omega
      obtain ⟨c, c1, c2, c3⟩ := close_f w hv hn
      obtain ⟨R, r1, r2⟩ := rclose_f w hv hn
      have hsame := same_f c R w.length (by omega) c1 r1.len (fun x hx => (c2 x hx).1) r1.rows true (by
        simp only [true_iff]
        intro x hx y hy
        rw [(c2 x hx).2 y hy, r1.ent x y hx hy trivial])
      refine Ev.bind c3 ?_
      have hpath : ∃ l e, Ev (fun k => chart_Path.f k w a b) (l, e) ∧ (¬ (inW w a ∧ inW w b) → l = [] ∧ e = 10) ∧ (inW w a ∧ inW w b → e = 0 ∧ l.length ≤ 100000 ∧ Ev (fun k => haulierref27_Path.f k w a b) l) := by
        by_cases hin : inW w a ∧ inW w b
        · obtain ⟨ha, hb⟩ := hin
          obtain ⟨a, rfl⟩ := Int.eq_ofNat_of_zero_le ha.1
          obtain ⟨b, rfl⟩ := Int.eq_ofNat_of_zero_le hb.1
          have ha2 : a < w.length := by have := ha.2; omega
          have hb2 : b < w.length := by have := hb.2; omega
          obtain ⟨p, p1, p2, p3⟩ := path_f2 w hv hn a b ha2 hb2
          obtain ⟨q, q1, q2⟩ := rpath_f w hv hn b hb2 a ha2
          have epq := isP_uniq w b p q a p2 q1
          subst epq
          have hst := FD_steps w hv hn a b ha2 hb2
          refine ⟨_, _, p3, fun h => absurd ⟨ha, hb⟩ h, fun _ => ⟨rfl, by simp; omega, q2⟩⟩
        · have hpl : plS w [a, b] = 10 := by
            unfold plS
            rw [if_pos hc, if_neg]
            intro h
            exact hin ⟨h a (by simp), h b (by simp)⟩
          have := path_bad w a b (by rw [hpl]; omega)
          rw [hpl] at this
          exact ⟨_, _, this, fun _ => ⟨rfl, rfl⟩, fun h => absurd h hin⟩
      obtain ⟨l, e, k1, k2, k3⟩ := hpath
      refine Ev.bind k1 (Ev.bind (refchk_f w) ?_)
      simp only [if_pos hc, if_true]
      refine Ev.bind r2 (Ev.bind hsame ?_)
      simp only [Bool.not_true]
      exact cs_j0 w hv hn a b l e k2 k3
    · have hpl : plS w [a, b] = (chkW w).2.2 := by unfold plS; rw [if_neg hc]
      have hp := path_bad w a b (by rw [hpl]; exact hc)
      rw [hpl] at hp
      refine Ev.bind (close_bad w hc) (Ev.bind hp (Ev.bind (refchk_f w) ?_))
      simp only [if_neg hc, List.length_nil, Int.natCast_zero, if_true]
      exact Ev.bind chalive_f (Ev.now _)
  · simp only [if_neg hL]
    exact Ev.bind chalive_f (Ev.now _)


end Go.Proofs.Ytecncfnbeocneaa.Pure
