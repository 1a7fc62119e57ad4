/- Each minute of any timeline is handed on, with its kind, in order, till one has enough: lemmas on records and their minutes, and the pure statement of ViewEach. -/
import Derived.Test.YtegmofaiobdilaaMViewEachx3
set_option linter.unusedVariables false
set_option linter.unusedSimpArgs false
namespace Go.Proofs.Ytegmofaiobdilaa.Pure
open Go.RowKit Go.Proofs.Ytegmofaiobdilaa.MViewEach Go.Proofs.YtegmofaiobdilaaW.PrintWords Go.Proofs.YtegmofaiobdilaaW.PrintLast

theorem w64 {x : Int} (h0 : -9223372036854775808 ≤ x) (h1 : x ≤ 9223372036854775807) : wrap64 x = x := by
  unfold wrap64
  omega
theorem tmod_nn {a : Int} (h : 0 ≤ a) (b : Int) : Int.tmod a b = a % b := by
  rw [Int.tmod_eq_emod_of_nonneg h]
theorem tdiv_nn {a : Int} (h : 0 ≤ a) (b : Int) : Int.tdiv a b = a / b := by
  rw [Int.tdiv_eq_ediv_of_nonneg h]
theorem ev_succ {α : Type} {g : Nat → Option α} {r : α} (h : Ev (fun k => g (k + 1)) r) : Ev g r := by
  obtain ⟨K, h⟩ := h
  refine ⟨K + 1, fun n hn => ?_⟩
  obtain ⟨m, rfl⟩ : ∃ m, n = m + 1 := ⟨n - 1, by omega⟩
  exact h m (by omega)

def IR (x : Int) : Prop := -9223372036854775808 ≤ x ∧ x ≤ 9223372036854775807
theorem ir_of {x : Int} (h : (Lit.int .i64 x).wf = true) : IR x := by simpa [IR, Lit.wf, IntKind.min, IntKind.max, IntKind.signed, IntKind.bits] using h
theorem rd_drop (xs : List Int) (i : Nat) (h : i < xs.length) : xs.drop i = rd xs (i : Int) :: xs.drop (i + 1) := by
  rw [List.drop_eq_getElem_cons h]
  simp [rd, h]
theorem rd_mem (xs : List Int) (i : Nat) (h : i < xs.length) : rd xs (i : Int) ∈ xs := by
  simp [rd, h]

theorem rdT_drop (xs : List S50) (i : Nat) (h : i < xs.length) : xs.drop i = rd_T50 xs (i : Int) :: xs.drop (i + 1) := by
  rw [List.drop_eq_getElem_cons h]
  simp [rd_T50, h]
theorem rdT_mem (xs : List S50) (i : Nat) (h : i < xs.length) : rd_T50 xs (i : Int) ∈ xs := by simp [rd_T50, h]
theorem rdT_get (xs : List S50) (i : Nat) (h : i < xs.length) : xs[i]? = some (rd_T50 xs (i : Int)) := by simp [rd_T50, h]
def fltS (a b c : Int) : Int := if a < 0 ∨ a > 3 then 2 else if b < 0 ∨ b > 40320 ∨ c < 0 ∨ c > 40320 then 4 else if c ≤ b then 3 else 0
def chkS : List S50 → Nat → Option Int → Int × Int
  | [], _, _ => (0, 0)
  | r :: l, i, p => if fltS r.f0 r.f1 r.f2 ≠ 0 then ((i : Int), fltS r.f0 r.f1 r.f2) else
    if (∃ e, p = some e ∧ r.f1 > e) then ((i : Int), 5) else if (∃ e, p = some e ∧ r.f1 < e) then ((i : Int), 6) else chkS l (i + 1) (some r.f2)
def prevS (l : List S50) (i : Nat) : Option Int := if i = 0 then none else some (rd_T50 l ((i - 1 : Nat) : Int)).f2

theorem kind_f (a : Int) : record_kind.f a = some (!decide (a < 0 ∨ a > 3)) := by
  unfold record_kind.f
  by_cases h : a ≥ 0
  · rw [if_pos h]; congr 1; by_cases h2 : a < 4 <;> simp [h2] <;> omega
  · rw [if_neg h]; congr 1; simp; omega
theorem in_f (a : Int) : record_in.f a = some (!decide (a < 0 ∨ a > 40320)) := by
  unfold record_in.f
  by_cases h : a ≥ 0
  · rw [if_pos h]; congr 1; by_cases h2 : a ≤ 40320 <;> simp [h2] <;> omega
  · rw [if_neg h]; congr 1; simp; omega
theorem fault_f (a b c : Int) : Ev (fun k => record_fault.f k a b c) (fltS a b c) := by
  unfold record_fault.f fltS
  simp only [kind_f, in_f, Option.bind_some, Bool.not_eq_true', decide_eq_false_iff_not]
  by_cases h1 : a < 0 ∨ a > 3
  · simp only [h1, not_true, if_false, if_true]
    exact Ev.now _
  · simp only [h1, not_false_eq_true, if_true, if_false]
    have hj : ∀ z : Bool, Ev (fun k => record_fault.j0 k z a b c) (if z = true then 4 else if c ≤ b then 3 else 0) := by
      intro z
      refine ev_succ ?_
      simp only [record_fault.j0]
      by_cases hz : z = true
      · simp only [if_pos hz]; exact Ev.now _
      · by_cases hc : c ≤ b
        · simp only [if_neg hz, if_pos hc]; exact Ev.now _
        · simp only [if_neg hz, if_neg hc]; exact Ev.now _
    by_cases h2 : b < 0 ∨ b > 40320
    · have := hj true
      simp only [h2, not_true, if_false]
      rw [if_pos (by omega)]
      simpa using this
    · simp only [h2, not_false_eq_true, if_true]
      have := hj (!!decide (c < 0 ∨ c > 40320))
      by_cases h3 : c < 0 ∨ c > 40320
      · rw [if_pos (by omega)]
        simpa [h3] using this
      · rw [if_neg (by omega)]
        simpa [h3] using this
theorem prevS_pos (l : List S50) (i : Nat) (h : 0 < i) (hi : i ≤ l.length) : prevS l i = some (rd_T50 l ((i : Int) - 1)).f2 := by
  unfold prevS
  rw [if_neg (by omega), show ((i - 1 : Nat) : Int) = (i : Int) - 1 by omega]
theorem prevS_succ (l : List S50) (i : Nat) : prevS l (i + 1) = some (rd_T50 l (i : Int)).f2 := by
  unfold prevS
  rw [if_neg (by omega)]
  rfl
theorem check_l0 (l : List S50) (hl : l.length ≤ maxLen) (d : Nat) : ∀ i : Nat, i + d = l.length → Ev (fun k => record_Check.l0 k l l (l.length : Int) (i : Int)) (chkS (l.drop i) i (prevS l i)) := by
  unfold maxLen at hl
  induction d with
  | zero =>
    intro i hi
    rw [List.drop_of_length_le (by omega)]
    refine ev_succ ?_
    simp only [record_Check.l0, if_neg (show ¬ (i : Int) < (l.length : Int) by omega)]
    exact Ev.now _
  | succ d ih =>
    intro i hi
    rw [rdT_drop l i (by omega)]
    have h := ih (i + 1) (by omega)
    rw [prevS_succ, show (((i + 1 : Nat) : Int)) = (i : Int) + 1 by omega] at h
    refine ev_succ ?_
    simp only [record_Check.l0, chkS, if_pos (show (i : Int) < (l.length : Int) by omega), if_pos (show (0 : Int) ≤ (i : Int) by omega), w64 (x := (i : Int) + 1) (by omega) (by omega), w64 (x := (i : Int) - 1) (by omega) (by omega)]
    refine Ev.bind (fault_f _ _ _) ?_
    by_cases h0 : fltS (rd_T50 l (i : Int)).f0 (rd_T50 l (i : Int)).f1 (rd_T50 l (i : Int)).f2 = 0
    · simp only [if_pos h0, h0, ne_eq, not_true, if_false]
      by_cases hz : (i : Int) = 0
      · have hz2 : i = 0 := by omega
        subst hz2
        simp only [if_pos hz, prevS, if_true]
        rw [if_neg (by rintro ⟨e, he, _⟩; cases he), if_neg (by rintro ⟨e, he, _⟩; cases he)]
        exact h
      · rw [prevS_pos l i (by omega) (by omega)]
        simp only [if_neg hz, if_pos (show 0 ≤ (i : Int) - 1 by omega), if_pos (show (i : Int) - 1 < (l.length : Int) by omega)]
        simp only [Option.some.injEq, exists_eq_left']
        by_cases h5 : (rd_T50 l (i : Int)).f1 > (rd_T50 l ((i : Int) - 1)).f2
        · simp only [if_pos h5]
          exact Ev.now _
        · by_cases h6 : (rd_T50 l (i : Int)).f1 < (rd_T50 l ((i : Int) - 1)).f2
          · simp only [if_neg h5, if_pos h6]
            exact Ev.now _
          · simp only [if_neg h5, if_neg h6]
            exact h
    · simp only [if_neg h0, ne_eq, h0, not_false_eq_true, if_true]
      exact Ev.now _
theorem check_f (l : List S50) (hl : l.length ≤ maxLen) : Ev (fun k => record_Check.f k l) (chkS l 0 none) := by
  unfold record_Check.f
  exact check_l0 l hl l.length 0 (by omega)

theorem rcheck_l0 (l : List S50) (hl : l.length ≤ maxLen) (d : Nat) : ∀ i : Nat, i + d = l.length → Ev (fun k => haulierref08_Check.l0 k l (i : Int)) (chkS (l.drop i) i (prevS l i)) := by
  unfold maxLen at hl
  induction d with
  | zero =>
    intro i hi
    rw [List.drop_of_length_le (by omega)]
    refine ev_succ ?_
    simp only [haulierref08_Check.l0, if_neg (show ¬ (i : Int) < (l.length : Int) by omega)]
    exact Ev.now _
  | succ d ih =>
    intro i hi
    rw [rdT_drop l i (by omega)]
    have h := ih (i + 1) (by omega)
    rw [prevS_succ, show (((i + 1 : Nat) : Int)) = (i : Int) + 1 by omega] at h
    generalize hr : rd_T50 l (i : Int) = r at h
    obtain ⟨a, b, c⟩ := r
    have h3 : ∀ z : Bool, fltS a b c = 0 → (z = true ↔ ∃ e, prevS l i = some e ∧ b > e) → Ev (fun k => haulierref08_Check.j3 k l (i : Int) z a b c) (chkS (⟨a, b, c⟩ :: l.drop (i + 1)) i (prevS l i)) := by
      intro z hf hz
      refine ev_succ ?_
      simp only [haulierref08_Check.j3, chkS, hf, ne_eq, not_true, if_false]
      by_cases hzt : z = true
      · simp only [if_pos hzt, if_pos (hz.1 hzt)]
        exact Ev.now _
      · have hz' : ¬ ∃ e, prevS l i = some e ∧ b > e := fun h => hzt (hz.2 h)
        simp only [if_neg hzt, if_neg hz']
        by_cases hi0 : (i : Int) > 0
        · rw [prevS_pos l i (by omega) (by omega)]
          simp only [if_pos hi0, w64 (x := (i : Int) - 1) (by omega) (by omega), w64 (x := (i : Int) + 1) (by omega) (by omega), if_pos (show 0 ≤ (i : Int) - 1 by omega), if_pos (show (i : Int) - 1 < (l.length : Int) by omega)]
          simp only [Option.some.injEq, exists_eq_left']
          by_cases h6 : b < (rd_T50 l ((i : Int) - 1)).f2
          · simp only [if_pos h6]
            exact Ev.now _
          · simp only [if_neg h6]
            exact h
        · have hz2 : i = 0 := by omega
          subst hz2
          simp only [if_neg hi0, prevS, if_true]
          rw [if_neg (by rintro ⟨e, he, _⟩; cases he)]
          simp only [w64 (x := ((0 : Nat) : Int) + 1) (by omega) (by omega)]
          exact h
    have h2 : ∀ z : Bool, ¬ (a < 0 ∨ a > 3) → (z = true ↔ b < 0 ∨ b > 40320 ∨ c < 0 ∨ c > 40320) → Ev (fun k => haulierref08_Check.j2 k l (i : Int) z a b c) (chkS (⟨a, b, c⟩ :: l.drop (i + 1)) i (prevS l i)) := by
      intro z ha hz
      refine ev_succ ?_
      simp only [haulierref08_Check.j2]
      by_cases hzt : z = true
      · have hf : fltS a b c = 4 := by unfold fltS; rw [if_neg ha, if_pos (hz.1 hzt)]
        simp only [if_pos hzt, chkS, hf]
        exact Ev.now _
      · have hz' : ¬ (b < 0 ∨ b > 40320 ∨ c < 0 ∨ c > 40320) := fun h => hzt (hz.2 h)
        by_cases hcb : c ≤ b
        · have hf : fltS a b c = 3 := by unfold fltS; rw [if_neg ha, if_neg hz', if_pos hcb]
          simp only [if_neg hzt, if_pos hcb, chkS, hf]
          exact Ev.now _
        · have hf : fltS a b c = 0 := by unfold fltS; rw [if_neg ha, if_neg hz', if_neg hcb]
          simp only [if_neg hzt, if_neg hcb]
          by_cases hi0 : (i : Int) > 0
          · simp only [if_pos hi0, w64 (x := (i : Int) - 1) (by omega) (by omega), if_pos (show 0 ≤ (i : Int) - 1 by omega), if_pos (show (i : Int) - 1 < (l.length : Int) by omega)]
            refine h3 _ hf ?_
            rw [prevS_pos l i (by omega) (by omega)]
            simp
          · simp only [if_neg hi0]
            refine h3 _ hf ?_
            have hz2 : i = 0 := by omega
            subst hz2
            simp [prevS]
    have h1 : ∀ z : Bool, (z = true ↔ a < 0 ∨ a > 3) → Ev (fun k => haulierref08_Check.j1 k l (i : Int) z a b c) (chkS (⟨a, b, c⟩ :: l.drop (i + 1)) i (prevS l i)) := by
      intro z hz
      refine ev_succ ?_
      simp only [haulierref08_Check.j1]
      by_cases hzt : z = true
      · have hf : fltS a b c = 2 := by unfold fltS; rw [if_pos (hz.1 hzt)]
        simp only [if_pos hzt, chkS, hf]
        exact Ev.now _
      · have ha : ¬ (a < 0 ∨ a > 3) := fun h => hzt (hz.2 h)
        simp only [if_neg hzt]
        by_cases c1 : b < 0
        · simp only [if_pos c1]
          exact h2 _ ha (by simp [c1])
        · by_cases c2 : b > 40320
          · simp only [if_neg c1, if_pos c2]
            exact h2 _ ha (by simp [c2])
          · by_cases c3 : c < 0
            · simp only [if_neg c1, if_neg c2, if_pos c3]
              exact h2 _ ha (by simp [c3])
            · simp only [if_neg c1, if_neg c2, if_neg c3]
              exact h2 _ ha (by simp; omega)
    refine ev_succ ?_
    simp only [haulierref08_Check.l0, hr, if_pos (show (i : Int) < (l.length : Int) by omega), if_pos (show (0 : Int) ≤ (i : Int) by omega)]
    by_cases ha : a < 0
    · simp only [if_pos ha]
      exact h1 _ (by simp [ha])
    · simp only [if_neg ha]
      exact h1 _ (by simp; omega)
theorem rcheck_f (l : List S50) (hl : l.length ≤ maxLen) : Ev (fun k => haulierref08_Check.f k l) (chkS l 0 none) := by
  unfold haulierref08_Check.f
  exact rcheck_l0 l hl l.length 0 (by omega)

def TL : Option Int → List S50 → Prop
  | _, [] => True
  | p, r :: l => fltS r.f0 r.f1 r.f2 = 0 ∧ (∀ e, p = some e → r.f1 = e) ∧ TL (some r.f2) l
theorem flt_pos (a b c : Int) : fltS a b c ≠ 0 ↔ (a < 0 ∨ a > 3 ∨ b < 0 ∨ c > 40320 ∨ c ≤ b) := by
  unfold fltS
  repeat' split
  all_goals simp
  all_goals omega
theorem flt_zero {a b c : Int} (h : fltS a b c = 0) : 0 ≤ a ∧ a ≤ 3 ∧ 0 ≤ b ∧ c ≤ 40320 ∧ b < c := by
  have := (flt_pos a b c)
  simp only [ne_eq, h, not_true, false_iff] at this
  omega
theorem chk_TL (l : List S50) : ∀ (i : Nat) (p : Option Int), (chkS l i p).2 = 0 ↔ TL p l := by
  induction l with
  | nil => intro i p; simp [chkS, TL]
  | cons r l ih =>
    intro i p
    simp only [chkS, TL]
    by_cases h0 : fltS r.f0 r.f1 r.f2 = 0
    · simp only [h0, ne_eq, not_true, if_false, true_and]
      by_cases h1 : ∃ e, p = some e ∧ r.f1 > e
      · rw [if_pos h1]
        obtain ⟨e, rfl, he⟩ := h1
        simp
        intro h2
        omega
      · rw [if_neg h1]
        by_cases h2 : ∃ e, p = some e ∧ r.f1 < e
        · rw [if_pos h2]
          obtain ⟨e, rfl, he⟩ := h2
          simp
          intro h2
          omega
        · rw [if_neg h2, ih]
          constructor
          · intro h
            refine ⟨fun e he => ?_, h⟩
            have a1 : ¬ r.f1 > e := fun h => h1 ⟨e, he, h⟩
            have a2 : ¬ r.f1 < e := fun h => h2 ⟨e, he, h⟩
            omega
          · exact fun h => h.2
    · simp only [h0, ne_eq, not_false_eq_true, if_true, false_and]
def stepR (out : List S50) (r : S50) : List S50 :=
  if 0 < out.length ∧ (rd_T50 out ((out.length : Int) - 1)).f0 = r.f0 then out.set (out.length - 1) ⟨(rd_T50 out ((out.length : Int) - 1)).f0, (rd_T50 out ((out.length : Int) - 1)).f1, r.f2⟩ else out ++ [r]
theorem rd_last (l : List S50) (x : S50) : rd_T50 (l ++ [x]) (((l ++ [x]).length : Int) - 1) = x := by
  unfold rd_T50
  rw [show (((l ++ [x]).length : Int) - 1).toNat = l.length by simp]
  simp
theorem stepR_nil (r : S50) : stepR [] r = [r] := by simp [stepR]
theorem stepR_snoc (l : List S50) (x r : S50) : stepR (l ++ [x]) r = if x.f0 = r.f0 then l ++ [⟨x.f0, x.f1, r.f2⟩] else l ++ [x, r] := by
  unfold stepR
  rw [rd_last]
  by_cases h : x.f0 = r.f0
  · rw [if_pos ⟨by simp, h⟩, if_pos h]
    simp
  · rw [if_neg (fun h2 => h h2.2), if_neg h]
    simp
theorem stepR_length (out : List S50) (r : S50) : (stepR out r).length ≤ out.length + 1 := by
  unfold stepR
  split
  · simp
  · simp
theorem stepR_two (out : List S50) (k b c b' c' : Int) : stepR (stepR out ⟨k, b, c⟩) ⟨k, b', c'⟩ = stepR out ⟨k, b, c'⟩ := by
  rcases List.eq_nil_or_concat out with rfl | ⟨l, x, rfl⟩
  · rw [stepR_nil, stepR_nil, show ([⟨k, b, c⟩] : List S50) = [] ++ [⟨k, b, c⟩] from rfl, stepR_snoc]
    simp
  · rw [List.concat_eq_append, stepR_snoc, stepR_snoc]
    simp only
    by_cases h : x.f0 = k
    · rw [if_pos h, if_pos h, stepR_snoc]
      simp [h]
    · rw [if_neg h, if_neg h, show l ++ [x, ⟨k, b, c⟩] = (l ++ [x]) ++ [⟨k, b, c⟩] by simp, stepR_snoc]
      simp
def ofFold : List S50 → Int → List Int → List S50
  | out, _, [] => out
  | out, m, k :: ks => ofFold (stepR out ⟨k, m, m + 1⟩) (m + 1) ks
theorem ofFold_app (ks ks' : List Int) : ∀ (out : List S50) (m : Int), ofFold out m (ks ++ ks') = ofFold (ofFold out m ks) (m + ks.length) ks' := by
  induction ks with
  | nil => intro out m; simp [ofFold]
  | cons k ks ih =>
    intro out m
    simp only [List.cons_append, ofFold, ih, List.length_cons]
    congr 1
    omega
theorem ofFold_run (k : Int) (n : Nat) : ∀ (out : List S50) (m : Int), ofFold out m (List.replicate (n + 1) k) = stepR out ⟨k, m, m + n + 1⟩ := by
  induction n with
  | zero => intro out m; simp [ofFold]
  | succ n ih =>
    intro out m
    rw [List.replicate_succ, ofFold, ih, stepR_two]
    congr 2
    omega
def kindsS (l : List S50) : List Int := l.flatMap fun r => List.replicate (r.f2 - r.f1).toNat r.f0
def endS : Int → List S50 → Int
  | e, [] => e
  | _, r :: l => endS r.f2 l
theorem TL_kinds (l : List S50) : ∀ e, TL (some e) l → e + (kindsS l).length = endS e l ∧ (e ≤ 40320 → endS e l ≤ 40320) := by
  induction l with
  | nil => intro e _; simp [kindsS, endS]
  | cons r l ih =>
    intro e h
    obtain ⟨h0, h1, h2⟩ := h
    have h3 := flt_zero h0
    have h4 := h1 e rfl
    obtain ⟨h5, h6⟩ := ih _ h2
    simp only [kindsS, List.flatMap_cons, List.length_append, List.length_replicate, endS] at h5 ⊢
    constructor
    · omega
    · intro _; exact h6 (by omega)
theorem TL_of (l : List S50) : ∀ (out : List S50) (e : Int), TL (some e) l → ofFold out e (kindsS l) = l.foldl stepR out := by
  induction l with
  | nil => intro out e _; rfl
  | cons r l ih =>
    intro out e h
    obtain ⟨h0, h1, h2⟩ := h
    have h3 := flt_zero h0
    have h4 := h1 e rfl
    subst h4
    obtain ⟨n, hn⟩ : ∃ n, (r.f2 - r.f1).toNat = n + 1 := ⟨(r.f2 - r.f1).toNat - 1, by omega⟩
    have he : r.f1 + (n : Int) + 1 = r.f2 := by omega
    simp only [kindsS, List.flatMap_cons, List.foldl_cons]
    rw [hn, ofFold_app, ofFold_run, he, List.length_replicate, show r.f1 + ((n + 1 : Nat) : Int) = r.f2 by omega]
    exact ih _ _ h2
def begS (l : List S50) : Int := match l with | [] => 0 | r :: _ => r.f1
theorem TL_some (l : List S50) (h : TL none l) : TL (some (begS l)) l := by
  cases l with
  | nil => trivial
  | cons r l => exact ⟨h.1, fun e he => by injection he, h.2.2⟩
theorem TL_len (l : List S50) (h : TL none l) : (kindsS l).length ≤ 40320 ∧ 0 ≤ begS l ∧ begS l ≤ 40320 := by
  have h1 := TL_kinds l _ (TL_some l h)
  have h2 : 0 ≤ begS l ∧ begS l ≤ 40320 := by
    cases l with
    | nil => simp [begS]
    | cons r l =>
      have := flt_zero h.1
      simp only [begS]
      omega
  have := h1.2 h2.2
  omega
def mergeS (l : List S50) : List S50 := l.foldl stepR []
def normS (l : List S50) : List S50 × Int := if (chkS l 0 none).2 = 0 then (mergeS l, 0) else ([], (chkS l 0 none).2)
theorem norm_of (l : List S50) (h : TL none l) : ofFold [] (begS l) (kindsS l) = mergeS l := TL_of l [] _ (TL_some l h)

theorem kinds_l1 (l : List S50) (hl : l.length ≤ 1000000) (i : Nat) (hi : i < l.length) (r : List Int) (n : Nat) : ∀ (out : List Int) (m : Int), -9223372036854775808 ≤ m → m + n ≤ 9223372036854775807 → (m + n = (rd_T50 l (i : Int)).f2 ∨ (n = 0 ∧ (rd_T50 l (i : Int)).f2 ≤ m)) → out.length + n ≤ 17592186044415 →
    Ev (fun k => haulierref08_Kinds.l0 k l (out ++ List.replicate n (rd_T50 l (i : Int)).f0) ((i : Int) + 1)) r → Ev (fun k => haulierref08_Kinds.l1 k l out (i : Int) m) r := by
  induction n with
  | zero =>
    intro out m h0 h1 h2 h3 h
    refine ev_succ ?_
    simp only [haulierref08_Kinds.l1, if_pos (show (0 : Int) ≤ (i : Int) by omega), if_pos (show (i : Int) < (l.length : Int) by omega), if_neg (show ¬ m < (rd_T50 l (i : Int)).f2 by omega), w64 (x := (i : Int) + 1) (by omega) (by omega)]
    simpa using h
  | succ n ih =>
    intro out m h0 h1 h2 h3 h
    refine ev_succ ?_
    simp only [haulierref08_Kinds.l1, if_pos (show (0 : Int) ≤ (i : Int) by omega), if_pos (show (i : Int) < (l.length : Int) by omega), if_pos (show m < (rd_T50 l (i : Int)).f2 by omega), w64 (x := m + 1) (by omega) (by omega), if_pos (show out.length < 17592186044416 by omega)]
    refine ih _ _ (by omega) (by omega) (by omega) (by simp; omega) ?_
    rw [List.append_assoc]
    exact h
theorem kinds_l0 (l : List S50) (hl : l.length ≤ 1000000) (d : Nat) : ∀ (i : Nat) (out : List Int) (e : Int), i + d = l.length → TL (some e) (l.drop i) → out.length + (kindsS (l.drop i)).length ≤ 17592186044415 →
    Ev (fun k => haulierref08_Kinds.l0 k l out (i : Int)) (out ++ kindsS (l.drop i)) := by
  induction d with
  | zero =>
    intro i out e hi _ _
    rw [List.drop_of_length_le (by omega)]
    refine ev_succ ?_
    simp only [haulierref08_Kinds.l0, if_neg (show ¬ (i : Int) < (l.length : Int) by omega), kindsS, List.flatMap_nil, List.append_nil]
    exact Ev.now _
  | succ d ih =>
    intro i out e hi ht hb
    rw [rdT_drop l i (by omega)] at ht hb ⊢
    obtain ⟨t0, t1, t2⟩ := ht
    have h3 := flt_zero t0
    simp only [kindsS, List.flatMap_cons, List.length_append, List.length_replicate] at hb
    have h := ih (i + 1) (out ++ List.replicate ((rd_T50 l (i : Int)).f2 - (rd_T50 l (i : Int)).f1).toNat (rd_T50 l (i : Int)).f0) _ (by omega) t2 (by simp only [kindsS, List.length_append, List.length_replicate]; omega)
    rw [show (((i + 1 : Nat) : Int)) = (i : Int) + 1 by omega] at h
    refine ev_succ ?_
    simp only [haulierref08_Kinds.l0, if_pos (show (i : Int) < (l.length : Int) by omega), if_pos (show (0 : Int) ≤ (i : Int) by omega)]
    refine kinds_l1 l hl i (by omega) _ ((rd_T50 l (i : Int)).f2 - (rd_T50 l (i : Int)).f1).toNat out _ (by omega) (by omega) (by omega) (by omega) ?_
    simp only [kindsS, List.flatMap_cons]
    rw [← List.append_assoc]
    exact h
theorem kinds_f (l : List S50) (hl : l.length ≤ 1000000) (h : TL none l) : Ev (fun k => haulierref08_Kinds.f k l) (kindsS l) := by
  unfold haulierref08_Kinds.f
  have h1 := TL_len l h
  have := kinds_l0 l hl l.length 0 [] (begS l) (by omega) (TL_some l h) (by simp; omega)
  simpa using this
theorem begin_f (l : List S50) : haulierref08_Begin.f l = some (begS l) := by
  unfold haulierref08_Begin.f begS
  cases l with
  | nil => rfl
  | cons r l =>
    rw [if_neg (by simp only [List.length_cons]; omega), if_pos (by simp only [List.length_cons]; omega)]
    rfl

/-! alive -/
open Go.Proofs.Ytegmofaiobdilaa.Vw1 (mins minsR lenR Rec)
theorem alive_f : Ev (fun k => haulierlaw09_alive.f k) true := Ev.of (fun k => haulierlaw09_alive.mono k) (k := 10) (by kernel_rfl)

/-! records that may be -/
theorem TL_okR (l : List S50) : ∀ p, TL p l → l.all view_Of.okR = true := by
  induction l with
  | nil => intro p _; rfl
  | cons r l ih =>
    intro p h
    have h0 := flt_zero h.1
    rw [List.all_cons, ih _ h.2.2, Bool.and_true]
    exact decide_eq_true (by omega)

/-! light -/
theorem light_l0 (l : List S50) (hl : l.length ≤ 100) (d : Nat) : ∀ (i : Nat) (acc : Int), i + d = l.length → ∃ r, Ev (fun k => haulierlaw09_light.l0 k acc l (l.length : Int) (i : Int)) r := by
  induction d with
  | zero =>
    intro i acc hi
    refine ⟨decide (acc ≤ 3000), ev_succ ?_⟩
    simp only [haulierlaw09_light.l0, if_neg (show ¬ (i : Int) < (l.length : Int) by omega)]
    exact Ev.now _
  | succ d ih =>
    intro i acc hi
    obtain ⟨r, h⟩ := ih (i + 1) (wrap64 (acc + wrap64 ((rd_T50 l (i : Int)).f2 - (rd_T50 l (i : Int)).f1))) (by omega)
    rw [show (((i + 1 : Nat) : Int)) = (i : Int) + 1 by omega] at h
    by_cases c1 : (rd_T50 l (i : Int)).f1 < 0
    · refine ⟨true, ev_succ ?_⟩
      simp only [haulierlaw09_light.l0, if_pos (show (i : Int) < (l.length : Int) by omega), if_pos (show (0 : Int) ≤ (i : Int) by omega), if_pos c1]
      exact Ev.now _
    by_cases c2 : (rd_T50 l (i : Int)).f2 > 40320
    · refine ⟨true, ev_succ ?_⟩
      simp only [haulierlaw09_light.l0, if_pos (show (i : Int) < (l.length : Int) by omega), if_pos (show (0 : Int) ≤ (i : Int) by omega), if_neg c1, if_pos c2]
      exact Ev.now _
    by_cases c3 : (rd_T50 l (i : Int)).f2 < 0
    · refine ⟨true, ev_succ ?_⟩
      simp only [haulierlaw09_light.l0, if_pos (show (i : Int) < (l.length : Int) by omega), if_pos (show (0 : Int) ≤ (i : Int) by omega), if_neg c1, if_neg c2, if_pos c3]
      exact Ev.now _
    by_cases c4 : (rd_T50 l (i : Int)).f1 > 40320
    · refine ⟨true, ev_succ ?_⟩
      simp only [haulierlaw09_light.l0, if_pos (show (i : Int) < (l.length : Int) by omega), if_pos (show (0 : Int) ≤ (i : Int) by omega), if_neg c1, if_neg c2, if_neg c3, if_pos c4]
      exact Ev.now _
    refine ⟨r, ev_succ ?_⟩
    simp only [haulierlaw09_light.l0, if_pos (show (i : Int) < (l.length : Int) by omega), if_pos (show (0 : Int) ≤ (i : Int) by omega), if_neg c1, if_neg c2, if_neg c3, if_neg c4, w64 (x := (i : Int) + 1) (by omega) (by omega)]
    exact h
theorem light_f (l : List S50) : ∃ r, Ev (fun k => haulierlaw09_light.f k l) r ∧ (r = true → l.length ≤ 100) := by
  unfold haulierlaw09_light.f
  by_cases c : (l.length : Int) > 100
  · refine ⟨false, ?_, by simp⟩
    simp only [if_pos c]
    exact Ev.now _
  · obtain ⟨r, h⟩ := light_l0 l (by omega) l.length 0 0 (by omega)
    refine ⟨r, ?_, fun _ => by omega⟩
    simp only [if_neg c]
    exact h

theorem rd_app_l (a b : List Int) (j : Nat) (h : j < a.length) : rd (a ++ b) (j : Int) = rd a (j : Int) := by
  simp [rd, List.getElem?_append_left h]
theorem rd_app_r (a b : List Int) (j : Nat) : rd (a ++ b) ((a.length + j : Nat) : Int) = rd b (j : Int) := by
  unfold rd
  rw [Int.toNat_natCast, Int.toNat_natCast]
  rw [List.getD, List.getElem?_append_right (by omega), Nat.add_sub_cancel_left]
  rfl
theorem mins_zip (l : List S50) : ∀ e, TL (some e) l → mins (l.map view_Of.tQ) = haulierlaw09_ViewEach.zip e (kindsS l) := by
  induction l with
  | nil => intro e _; rfl
  | cons r l ih =>
    intro e h
    have h0 := flt_zero h.1
    have h1 := h.2.1 e rfl
    have h2 := ih _ h.2.2
    have hm : mins ((r :: l).map view_Of.tQ) = minsR (view_Of.tQ r) (lenR (view_Of.tQ r)) ++ mins (l.map view_Of.tQ) := by simp [mins]
    have hk : kindsS (r :: l) = List.replicate (r.f2 - r.f1).toNat r.f0 ++ kindsS l := by simp [kindsS]
    obtain ⟨d, hd⟩ : ∃ d, d = (r.f2 - r.f1).toNat := ⟨_, rfl⟩
    rw [hm, h2, hk, ← hd]
    unfold haulierlaw09_ViewEach.zip
    rw [List.length_append, List.length_replicate, List.range_add, List.map_append, List.map_map]
    have hl : lenR (view_Of.tQ r) = d := by rw [hd]; rfl
    rw [hl]
    congr 1
    · unfold minsR
      apply List.map_congr_left
      intro j hj
      rw [List.mem_range] at hj
      have e1 : rd (List.replicate d r.f0 ++ kindsS l) (j : Int) = r.f0 := by
        rw [rd_app_l _ _ _ (by rw [List.length_replicate]; exact hj)]
        simp [rd, hj]
      rw [e1]
      show (r.f1 + (j : Int), r.f0) = _
      rw [h1]
    · apply List.map_congr_left
      intro j _
      simp only [Function.comp]
      have e2 := rd_app_r (List.replicate d r.f0) (kindsS l) j
      rw [List.length_replicate] at e2
      rw [e2]
      refine Prod.ext ?_ rfl
      simp only []
      omega
theorem ViewEach : haulierlaw09_ViewEach.Pure := by
  intro l most hl _ _
  refine Ev.rounds ?_
  unfold haulierlaw09_ViewEach.f
  obtain ⟨r, hr, hl2⟩ := light_f l
  refine Ev.bind hr ?_
  cases r with
  | false =>
    simp only [Bool.false_eq_true, if_false]
    exact alive_f
  | true =>
    have hl3 := hl2 rfl
    simp only [if_true]
    refine Ev.bind (check_f l hl) ?_
    have hR : Ev (fun k => haulierref08_Right.f k l) (decide ((chkS l 0 none).2 = 0)) := by
      unfold haulierref08_Right.f
      exact Ev.bind (rcheck_f l hl) (Ev.now _)
    refine Ev.bind hR ?_
    rw [begin_f]
    simp only [Option.bind_some]
    unfold haulierlaw09_ViewEach.g
    by_cases h : (chkS l 0 none).2 = 0
    · have hT := (chk_TL l 0 none).1 h
      have hk := TL_len l hT
      simp only [if_pos h, decide_eq_true h, if_true]
      refine Ev.bind (kinds_f l (by omega) hT) ?_
      have hx : (0 ≤ begS l ∧ begS l ≤ 100000) ∧ l.all view_Of.okR = true ∧ (kindsS l).length ≤ 100000 ∧ mins (l.map view_Of.tQ) = haulierlaw09_ViewEach.zip (begS l) (kindsS l) := ⟨⟨hk.2.1, by omega⟩, TL_okR l none hT, by omega, mins_zip l _ (TL_some l hT)⟩
      simp only [if_pos hx]
      exact alive_f
    · simp only [if_neg h, decide_eq_false h, if_true]
      exact alive_f


end Go.Proofs.Ytegmofaiobdilaa.Pure
