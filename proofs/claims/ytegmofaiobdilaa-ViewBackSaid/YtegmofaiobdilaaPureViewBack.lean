/- The timeline of a view has that view; the spells of a kind have just the letters of it: lemmas on records, kinds, views and spells, and the pure statement of ViewBack. -/
import Derived.Test.YtegmofaiobdilaaMViewBackx3
set_option linter.unusedVariables false
set_option linter.unusedSimpArgs false
namespace Go.Proofs.Ytegmofaiobdilaa.Pure
open Go.RowKit Go.Proofs.Ytegmofaiobdilaa.MViewBack Go.Proofs.YtegmofaiobdilaaW.PrintWords Go.Proofs.YtegmofaiobdilaaW.PrintLast

theorem w64 {x : Int} (h0 : -9223372036854775808 ≤ x) (h1 : x ≤ 9223372036854775807) : wrap64 x = x := by
  unfold wrap64
  omega
theorem tmod_nn {a : Int} (h : 0 ≤ a) (b : Int) : Int.tmod a b = a % b := by
  rw [Int.tmod_eq_emod_of_nonneg h]
theorem tdiv_nn {a : Int} (h : 0 ≤ a) (b : Int) : Int.tdiv a b = a / b := by
  rw [Int.tdiv_eq_ediv_of_nonneg h]
theorem ev_succ {α : Type} {g : Nat → Option α} {r : α} (h : Ev (fun k => g (k + 1)) r) : Ev g r := by
  obtain ⟨K, h⟩ := h
  refine ⟨K + 1, fun n hn => ?_⟩
  obtain ⟨m, rfl⟩ : ∃ m, n = m + 1 := ⟨n - 1, by omega⟩
  exact h m (by omega)

def IR (x : Int) : Prop := -9223372036854775808 ≤ x ∧ x ≤ 9223372036854775807
theorem ir_of {x : Int} (h : (Lit.int .i64 x).wf = true) : IR x := by simpa [IR, Lit.wf, IntKind.min, IntKind.max, IntKind.signed, IntKind.bits] using h
theorem rd_drop (xs : List Int) (i : Nat) (h : i < xs.length) : xs.drop i = rd xs (i : Int) :: xs.drop (i + 1) := by
  rw [List.drop_eq_getElem_cons h]
  simp [rd, h]
theorem rd_mem (xs : List Int) (i : Nat) (h : i < xs.length) : rd xs (i : Int) ∈ xs := by
  simp [rd, h]

def bl (s : ByteArray) : List Int := s.data.toList.map fun c => (c.toNat : Int)
theorem bl_length (s : ByteArray) : (bl s).length = s.size := by simp [bl]
theorem bl_range (s : ByteArray) : ∀ x ∈ bl s, 0 ≤ x ∧ x ≤ 255 := by
  intro x hx
  simp only [bl, List.mem_map] at hx
  obtain ⟨c, _, rfl⟩ := hx
  have := c.toNat_lt
  omega
theorem bt_bl (s : ByteArray) (i : Nat) (h : i < s.size) : (bl s)[i]? = some (bt s (i : Int)) := by
  unfold bt
  rw [dif_pos (by simpa using h)]
  simp only [bl, List.getElem?_map, Int.toNat_natCast]
  rw [List.getElem?_eq_getElem (by simpa using h)]
  rfl
theorem bl_drop (s : ByteArray) (i : Nat) (h : i < s.size) : (bl s).drop i = bt s (i : Int) :: (bl s).drop (i + 1) := by
  have h1 := bt_bl s i h
  obtain ⟨h2, h3⟩ := List.getElem?_eq_some_iff.1 h1
  rw [List.drop_eq_getElem_cons h2, h3]
theorem bl_append (s t : ByteArray) : bl (s ++ t) = bl s ++ bl t := by simp [bl, ByteArray.data_append]
theorem toList_inj {s t : ByteArray} (h : s.toList = t.toList) : s = t := by
  rw [ByteArray.toList_eq, ByteArray.toList_eq] at h
  cases s; cases t
  simp at h
  rw [h]
theorem bl_inj {s t : ByteArray} (h : bl s = bl t) : s = t := by
  apply toList_inj
  rw [ByteArray.toList_eq, ByteArray.toList_eq]
  unfold bl at h
  refine List.map_inj_right ?_ |>.1 h
  intro x y hxy
  exact UInt8.toNat_inj.1 (by omega)
theorem toList_bl {s t : ByteArray} : s.toList = t.toList ↔ bl s = bl t := by
  constructor
  · intro h; rw [toList_inj h]
  · intro h; rw [bl_inj h]
theorem bl_nums (xs : List Int) (h : ∀ x ∈ xs, 0 ≤ x ∧ x ≤ 255) : bl (strOfNums xs) = xs := by
  unfold bl strOfNums
  simp only [List.map_map]
  conv => rhs; rw [← List.map_id xs]
  apply List.map_congr_left
  intro x hx
  have := h x hx
  simp only [Function.comp]
  rw [UInt8.toNat_ofNat']
  simp
  omega
theorem bl_extract (s : ByteArray) (i j : Nat) : bl (s.extract i j) = ((bl s).take j).drop i := by
  simp [bl, ByteArray.data_extract, List.map_drop, List.map_take, List.drop_take]
theorem size_bl (s : ByteArray) : s.size = (bl s).length := (bl_length s).symm

theorem rdT_drop (xs : List S50) (i : Nat) (h : i < xs.length) : xs.drop i = rd_T50 xs (i : Int) :: xs.drop (i + 1) := by
  rw [List.drop_eq_getElem_cons h]
  simp [rd_T50, h]
theorem rdT_mem (xs : List S50) (i : Nat) (h : i < xs.length) : rd_T50 xs (i : Int) ∈ xs := by simp [rd_T50, h]
theorem rdT_get (xs : List S50) (i : Nat) (h : i < xs.length) : xs[i]? = some (rd_T50 xs (i : Int)) := by simp [rd_T50, h]
def fltS (a b c : Int) : Int := if a < 0 ∨ a > 3 then 2 else if b < 0 ∨ b > 40320 ∨ c < 0 ∨ c > 40320 then 4 else if c ≤ b then 3 else 0
def chkS : List S50 → Nat → Option Int → Int × Int
  | [], _, _ => (0, 0)
  | r :: l, i, p => if fltS r.f0 r.f1 r.f2 ≠ 0 then ((i : Int), fltS r.f0 r.f1 r.f2) else
    if (∃ e, p = some e ∧ r.f1 > e) then ((i : Int), 5) else if (∃ e, p = some e ∧ r.f1 < e) then ((i : Int), 6) else chkS l (i + 1) (some r.f2)
def prevS (l : List S50) (i : Nat) : Option Int := if i = 0 then none else some (rd_T50 l ((i - 1 : Nat) : Int)).f2

theorem kind_f (a : Int) : record_kind.f a = some (!decide (a < 0 ∨ a > 3)) := by
  unfold record_kind.f
  by_cases h : a ≥ 0
  · rw [if_pos h]; congr 1; by_cases h2 : a < 4 <;> simp [h2] <;> omega
  · rw [if_neg h]; congr 1; simp; omega
theorem in_f (a : Int) : record_in.f a = some (!decide (a < 0 ∨ a > 40320)) := by
  unfold record_in.f
  by_cases h : a ≥ 0
  · rw [if_pos h]; congr 1; by_cases h2 : a ≤ 40320 <;> simp [h2] <;> omega
  · rw [if_neg h]; congr 1; simp; omega
theorem fault_f (a b c : Int) : Ev (fun k => record_fault.f k a b c) (fltS a b c) := by
  unfold record_fault.f fltS
  simp only [kind_f, in_f, Option.bind_some, Bool.not_eq_true', decide_eq_false_iff_not]
  by_cases h1 : a < 0 ∨ a > 3
  · simp only [h1, not_true, if_false, if_true]
    exact Ev.now _
  · simp only [h1, not_false_eq_true, if_true, if_false]
    have hj : ∀ z : Bool, Ev (fun k => record_fault.j0 k z a b c) (if z = true then 4 else if c ≤ b then 3 else 0) := by
      intro z
      refine ev_succ ?_
      simp only [record_fault.j0]
      by_cases hz : z = true
      · simp only [if_pos hz]; exact Ev.now _
      · by_cases hc : c ≤ b
        · simp only [if_neg hz, if_pos hc]; exact Ev.now _
        · simp only [if_neg hz, if_neg hc]; exact Ev.now _
    by_cases h2 : b < 0 ∨ b > 40320
    · have := hj true
      simp only [h2, not_true, if_false]
      rw [if_pos (by omega)]
      simpa using this
    · simp only [h2, not_false_eq_true, if_true]
      have := hj (!!decide (c < 0 ∨ c > 40320))
      by_cases h3 : c < 0 ∨ c > 40320
      · rw [if_pos (by omega)]
        simpa [h3] using this
      · rw [if_neg (by omega)]
        simpa [h3] using this
theorem prevS_pos (l : List S50) (i : Nat) (h : 0 < i) (hi : i ≤ l.length) : prevS l i = some (rd_T50 l ((i : Int) - 1)).f2 := by
  unfold prevS
  rw [if_neg (by omega), show ((i - 1 : Nat) : Int) = (i : Int) - 1 by omega]
theorem prevS_succ (l : List S50) (i : Nat) : prevS l (i + 1) = some (rd_T50 l (i : Int)).f2 := by
  unfold prevS
  rw [if_neg (by omega)]
  rfl
theorem check_l0 (l : List S50) (hl : l.length ≤ maxLen) (d : Nat) : ∀ i : Nat, i + d = l.length → Ev (fun k => record_Check.l0 k l l (l.length : Int) (i : Int)) (chkS (l.drop i) i (prevS l i)) := by
  unfold maxLen at hl
  induction d with
  | zero =>
    intro i hi
    rw [List.drop_of_length_le (by omega)]
    refine ev_succ ?_
    simp only [record_Check.l0, if_neg (show ¬ (i : Int) < (l.length : Int) by omega)]
    exact Ev.now _
  | succ d ih =>
    intro i hi
    rw [rdT_drop l i (by omega)]
    have h := ih (i + 1) (by omega)
    rw [prevS_succ, show (((i + 1 : Nat) : Int)) = (i : Int) + 1 by omega] at h
    refine ev_succ ?_
    simp only [record_Check.l0, chkS, if_pos (show (i : Int) < (l.length : Int) by omega), if_pos (show (0 : Int) ≤ (i : Int) by omega), w64 (x := (i : Int) + 1) (by omega) (by omega), w64 (x := (i : Int) - 1) (by omega) (by omega)]
    refine Ev.bind (fault_f _ _ _) ?_
    by_cases h0 : fltS (rd_T50 l (i : Int)).f0 (rd_T50 l (i : Int)).f1 (rd_T50 l (i : Int)).f2 = 0
    · simp only [if_pos h0, h0, ne_eq, not_true, if_false]
      by_cases hz : (i : Int) = 0
      · have hz2 : i = 0 := by omega
        subst hz2
        simp only [if_pos hz, prevS, if_true]
        rw [if_neg (by rintro ⟨e, he, _⟩; cases he), if_neg (by rintro ⟨e, he, _⟩; cases he)]
        exact h
      · rw [prevS_pos l i (by omega) (by omega)]
        simp only [if_neg hz, if_pos (show 0 ≤ (i : Int) - 1 by omega), if_pos (show (i : Int) - 1 < (l.length : Int) by omega)]
        simp only [Option.some.injEq, exists_eq_left']
        by_cases h5 : (rd_T50 l (i : Int)).f1 > (rd_T50 l ((i : Int) - 1)).f2
        · simp only [if_pos h5]
          exact Ev.now _
        · by_cases h6 : (rd_T50 l (i : Int)).f1 < (rd_T50 l ((i : Int) - 1)).f2
          · simp only [if_neg h5, if_pos h6]
            exact Ev.now _
          · simp only [if_neg h5, if_neg h6]
            exact h
    · simp only [if_neg h0, ne_eq, h0, not_false_eq_true, if_true]
      exact Ev.now _
theorem check_f (l : List S50) (hl : l.length ≤ maxLen) : Ev (fun k => record_Check.f k l) (chkS l 0 none) := by
  unfold record_Check.f
  exact check_l0 l hl l.length 0 (by omega)

def TL : Option Int → List S50 → Prop
  | _, [] => True
  | p, r :: l => fltS r.f0 r.f1 r.f2 = 0 ∧ (∀ e, p = some e → r.f1 = e) ∧ TL (some r.f2) l
theorem flt_pos (a b c : Int) : fltS a b c ≠ 0 ↔ (a < 0 ∨ a > 3 ∨ b < 0 ∨ c > 40320 ∨ c ≤ b) := by
  unfold fltS
  repeat' split
  all_goals simp
  all_goals omega
theorem flt_zero {a b c : Int} (h : fltS a b c = 0) : 0 ≤ a ∧ a ≤ 3 ∧ 0 ≤ b ∧ c ≤ 40320 ∧ b < c := by
  have := (flt_pos a b c)
  simp only [ne_eq, h, not_true, false_iff] at this
  omega
theorem chk_TL (l : List S50) : ∀ (i : Nat) (p : Option Int), (chkS l i p).2 = 0 ↔ TL p l := by
  induction l with
  | nil => intro i p; simp [chkS, TL]
  | cons r l ih =>
    intro i p
    simp only [chkS, TL]
    by_cases h0 : fltS r.f0 r.f1 r.f2 = 0
    · simp only [h0, ne_eq, not_true, if_false, true_and]
      by_cases h1 : ∃ e, p = some e ∧ r.f1 > e
      · rw [if_pos h1]
        obtain ⟨e, rfl, he⟩ := h1
        simp
        intro h2
        omega
      · rw [if_neg h1]
        by_cases h2 : ∃ e, p = some e ∧ r.f1 < e
        · rw [if_pos h2]
          obtain ⟨e, rfl, he⟩ := h2
          simp
          intro h2
          omega
        · rw [if_neg h2, ih]
          constructor
          · intro h
            refine ⟨fun e he => ?_, h⟩
            have a1 : ¬ r.f1 > e := fun h => h1 ⟨e, he, h⟩
            have a2 : ¬ r.f1 < e := fun h => h2 ⟨e, he, h⟩
            omega
          · exact fun h => h.2
    · simp only [h0, ne_eq, not_false_eq_true, if_true, false_and]
def stepR (out : List S50) (r : S50) : List S50 :=
  if 0 < out.length ∧ (rd_T50 out ((out.length : Int) - 1)).f0 = r.f0 then out.set (out.length - 1) ⟨(rd_T50 out ((out.length : Int) - 1)).f0, (rd_T50 out ((out.length : Int) - 1)).f1, r.f2⟩ else out ++ [r]
theorem rd_last (l : List S50) (x : S50) : rd_T50 (l ++ [x]) (((l ++ [x]).length : Int) - 1) = x := by
  unfold rd_T50
  rw [show (((l ++ [x]).length : Int) - 1).toNat = l.length by simp]
  simp
theorem stepR_nil (r : S50) : stepR [] r = [r] := by simp [stepR]
theorem stepR_snoc (l : List S50) (x r : S50) : stepR (l ++ [x]) r = if x.f0 = r.f0 then l ++ [⟨x.f0, x.f1, r.f2⟩] else l ++ [x, r] := by
  unfold stepR
  rw [rd_last]
  by_cases h : x.f0 = r.f0
  · rw [if_pos ⟨by simp, h⟩, if_pos h]
    simp
  · rw [if_neg (fun h2 => h h2.2), if_neg h]
    simp
theorem stepR_length (out : List S50) (r : S50) : (stepR out r).length ≤ out.length + 1 := by
  unfold stepR
  split
  · simp
  · simp
theorem stepR_two (out : List S50) (k b c b' c' : Int) : stepR (stepR out ⟨k, b, c⟩) ⟨k, b', c'⟩ = stepR out ⟨k, b, c'⟩ := by
  rcases List.eq_nil_or_concat out with rfl | ⟨l, x, rfl⟩
  · rw [stepR_nil, stepR_nil, show ([⟨k, b, c⟩] : List S50) = [] ++ [⟨k, b, c⟩] from rfl, stepR_snoc]
    simp
  · rw [List.concat_eq_append, stepR_snoc, stepR_snoc]
    simp only
    by_cases h : x.f0 = k
    · rw [if_pos h, if_pos h, stepR_snoc]
      simp [h]
    · rw [if_neg h, if_neg h, show l ++ [x, ⟨k, b, c⟩] = (l ++ [x]) ++ [⟨k, b, c⟩] by simp, stepR_snoc]
      simp
def ofFold : List S50 → Int → List Int → List S50
  | out, _, [] => out
  | out, m, k :: ks => ofFold (stepR out ⟨k, m, m + 1⟩) (m + 1) ks
theorem ofFold_app (ks ks' : List Int) : ∀ (out : List S50) (m : Int), ofFold out m (ks ++ ks') = ofFold (ofFold out m ks) (m + ks.length) ks' := by
  induction ks with
  | nil => intro out m; simp [ofFold]
  | cons k ks ih =>
    intro out m
    simp only [List.cons_append, ofFold, ih, List.length_cons]
    congr 1
    omega
theorem ofFold_run (k : Int) (n : Nat) : ∀ (out : List S50) (m : Int), ofFold out m (List.replicate (n + 1) k) = stepR out ⟨k, m, m + n + 1⟩ := by
  induction n with
  | zero => intro out m; simp [ofFold]
  | succ n ih =>
    intro out m
    rw [List.replicate_succ, ofFold, ih, stepR_two]
    congr 2
    omega
def kindsS (l : List S50) : List Int := l.flatMap fun r => List.replicate (r.f2 - r.f1).toNat r.f0
def endS : Int → List S50 → Int
  | e, [] => e
  | _, r :: l => endS r.f2 l
theorem TL_kinds (l : List S50) : ∀ e, TL (some e) l → e + (kindsS l).length = endS e l ∧ (e ≤ 40320 → endS e l ≤ 40320) := by
  induction l with
  | nil => intro e _; simp [kindsS, endS]
  | cons r l ih =>
    intro e h
    obtain ⟨h0, h1, h2⟩ := h
    have h3 := flt_zero h0
    have h4 := h1 e rfl
    obtain ⟨h5, h6⟩ := ih _ h2
    simp only [kindsS, List.flatMap_cons, List.length_append, List.length_replicate, endS] at h5 ⊢
    constructor
    · omega
    · intro _; exact h6 (by omega)
theorem TL_of (l : List S50) : ∀ (out : List S50) (e : Int), TL (some e) l → ofFold out e (kindsS l) = l.foldl stepR out := by
  induction l with
  | nil => intro out e _; rfl
  | cons r l ih =>
    intro out e h
    obtain ⟨h0, h1, h2⟩ := h
    have h3 := flt_zero h0
    have h4 := h1 e rfl
    subst h4
    obtain ⟨n, hn⟩ : ∃ n, (r.f2 - r.f1).toNat = n + 1 := ⟨(r.f2 - r.f1).toNat - 1, by omega⟩
    have he : r.f1 + (n : Int) + 1 = r.f2 := by omega
    simp only [kindsS, List.flatMap_cons, List.foldl_cons]
    rw [hn, ofFold_app, ofFold_run, he, List.length_replicate, show r.f1 + ((n + 1 : Nat) : Int) = r.f2 by omega]
    exact ih _ _ h2
def begS (l : List S50) : Int := match l with | [] => 0 | r :: _ => r.f1
theorem TL_some (l : List S50) (h : TL none l) : TL (some (begS l)) l := by
  cases l with
  | nil => trivial
  | cons r l => exact ⟨h.1, fun e he => by injection he, h.2.2⟩
theorem TL_len (l : List S50) (h : TL none l) : (kindsS l).length ≤ 40320 ∧ 0 ≤ begS l ∧ begS l ≤ 40320 := by
  have h1 := TL_kinds l _ (TL_some l h)
  have h2 : 0 ≤ begS l ∧ begS l ≤ 40320 := by
    cases l with
    | nil => simp [begS]
    | cons r l =>
      have := flt_zero h.1
      simp only [begS]
      omega
  have := h1.2 h2.2
  omega
def mergeS (l : List S50) : List S50 := l.foldl stepR []
def normS (l : List S50) : List S50 × Int := if (chkS l 0 none).2 = 0 then (mergeS l, 0) else ([], (chkS l 0 none).2)
theorem norm_of (l : List S50) (h : TL none l) : ofFold [] (begS l) (kindsS l) = mergeS l := TL_of l [] _ (TL_some l h)

/-! kinds and letters; alive -/
open Go.Proofs.Ytegmofaiobdilaa.Vw1 (mins minsR lenR Rec) 
open Go.Proofs.Ytegmofaiobdilaa.Vw3 (letter txt)
open Go.Proofs.Ytegmofaiobdilaa.Vw4 (kindJ kindS)
def kd (c : Int) : Int × Bool := if c = 82 then (0, true) else if c = 65 then (1, true) else if c = 87 then (2, true) else if c = 68 then (3, true) else (0, false)
theorem kindS_nat : ∀ n, n < 256 → kindS ((n : Nat) : Int) = kd ((n : Nat) : Int) := by
  set_option maxRecDepth 100000 in
  decide
theorem kindS_kd (c : Int) (h0 : 0 ≤ c) (h1 : c ≤ 255) : kindS c = kd c := by
  obtain ⟨n, rfl⟩ := Int.eq_ofNat_of_zero_le h0
  exact kindS_nat n (by omega)
theorem vkind_f (c : Int) (h0 : 0 ≤ c) (h1 : c ≤ 255) : view_Kind.f c = some (kd c) := by
  unfold view_Kind.f
  rw [kindS_kd c h0 h1]
theorem kd_cases (c : Int) : (c = 82 ∧ kd c = (0, true)) ∨ (c = 65 ∧ kd c = (1, true)) ∨ (c = 87 ∧ kd c = (2, true)) ∨ (c = 68 ∧ kd c = (3, true)) ∨ (c ≠ 82 ∧ c ≠ 65 ∧ c ≠ 87 ∧ c ≠ 68 ∧ kd c = (0, false)) := by
  unfold kd
  by_cases h1 : c = 82
  · simp [h1]
  by_cases h2 : c = 65
  · simp [h2]
  by_cases h3 : c = 87
  · simp [h3]
  by_cases h4 : c = 68
  · simp [h4]
  · simp [h1, h2, h3, h4]
theorem alive_f : Ev (fun k => haulierlaw09_alive.f k) true := Ev.of (fun k => haulierlaw09_alive.mono k) (k := 10) (by kernel_rfl)

/-! the spells of a letter, as view makes them -/
def lt (a : Int) : Int := if a = 0 then 82 else if a = 1 then 65 else if a = 2 then 87 else 68
theorem letter_f (a : Int) : view_Letter.f a = if 0 ≤ a ∧ a < 4 then some (lt a, true) else some (0, false) := by
  unfold view_Letter.f
  by_cases h0 : a < 0
  · rw [if_pos h0, if_neg (by omega)]
  rw [if_neg h0]
  by_cases h1 : a ≥ 4
  · rw [if_pos h1, if_neg (by omega)]
  rw [if_neg h1, if_pos (by omega), if_pos (by omega), if_pos (by omega)]
  have : a = 0 ∨ a = 1 ∨ a = 2 ∨ a = 3 := by omega
  rcases this with rfl | rfl | rfl | rfl <;> rfl
theorem kd_lt (c a : Int) (h : 0 ≤ a ∧ a < 4) : kd c = (a, true) ↔ c = lt a := by
  have : a = 0 ∨ a = 1 ∨ a = 2 ∨ a = 3 := by omega
  rcases kd_cases c with ⟨rfl, e⟩ | ⟨rfl, e⟩ | ⟨rfl, e⟩ | ⟨rfl, e⟩ | ⟨h1, h2, h3, h4, e⟩ <;> rw [e] <;> rcases this with rfl | rfl | rfl | rfl <;> simp [lt] <;> omega
/-- spells of c: what came so far, the place, whether the byte ahead is c. -/
def refF (c : Int) : List S66 → Nat → Bool → List Int → List S66
  | acc, _, _, [] => acc
  | acc, p, pv, x :: t => if x = c then (if pv = true then refF c (acc.set (acc.length - 1) ⟨(rd_T66 acc ((acc.length : Int) - 1)).f0, (p : Int) + 1⟩) (p + 1) true t else refF c (acc ++ [⟨(p : Int), (p : Int) + 1⟩]) (p + 1) true t) else refF c acc (p + 1) false t
theorem refF_len (c : Int) (xs : List Int) : ∀ acc p pv, (refF c acc p pv xs).length ≤ acc.length + xs.length := by
  induction xs with
  | nil => intro acc p pv; simp [refF]
  | cons x t ih =>
    intro acc p pv
    rw [refF]
    split
    · split
      · have := ih (acc.set (acc.length - 1) ⟨(rd_T66 acc ((acc.length : Int) - 1)).f0, (p : Int) + 1⟩) (p + 1) true
        rw [List.length_set] at this
        simp only [List.length_cons]
        omega
      · have := ih (acc ++ [⟨(p : Int), (p : Int) + 1⟩]) (p + 1) true
        simp only [List.length_append, List.length_cons, List.length_nil] at this ⊢
        omega
    · have := ih acc (p + 1) false
      simp only [List.length_cons]
      omega
theorem set_last (acc : List S66) (a b : S66) : (acc ++ [a]).set ((acc ++ [a]).length - 1) b = acc ++ [b] ∧ rd_T66 (acc ++ [a]) (((acc ++ [a]).length : Int) - 1) = a := by
  constructor
  · rw [List.length_append, List.length_singleton, Nat.add_sub_cancel, List.set_append_right _ _ (Nat.le_refl _)]
    simp
  · unfold rd_T66
    rw [show (((acc ++ [a]).length : Int) - 1).toNat = acc.length by rw [List.length_append, List.length_singleton]; omega]
    simp
theorem spells_l (s : ByteArray) (hs : s.size ≤ 1000000) (c : Int) (d : Nat) :
    (∀ (p : Nat) (acc : List S66), p + d = s.size → acc.length ≤ p → Ev (fun k => view_Spells.l0 k s c acc (p : Int)) (refF c acc p false ((bl s).drop p))) ∧
    (∀ (p q : Nat) (acc : List S66), p + d = s.size → acc.length ≤ p → Ev (fun k => view_Spells.l1 k s c acc (p : Int) (q : Int)) (refF c (acc ++ [⟨(q : Int), (p : Int)⟩]) p true ((bl s).drop p))) := by
  induction d using Nat.strongRecOn with
  | _ d ih =>
    have L1 : ∀ (p q : Nat) (acc : List S66), p + d = s.size → acc.length ≤ p → Ev (fun k => view_Spells.l1 k s c acc (p : Int) (q : Int)) (refF c (acc ++ [⟨(q : Int), (p : Int)⟩]) p true ((bl s).drop p)) := by
      intro p q acc hp ha
      refine ev_succ ?_
      cases d with
      | zero =>
        simp only [view_Spells.l1, if_neg (show ¬ (p : Int) < (s.size : Int) by omega), if_pos (show acc.length < 8796093022208 by omega)]
        rw [List.drop_of_length_le (by rw [bl_length]; omega), refF]
        refine ev_succ ?_
        simp only [view_Spells.l0, w64 (x := (p : Int) + 1) (by omega) (by omega), if_neg (show ¬ (p : Int) + 1 < (s.size : Int) by omega)]
        exact Ev.now _
      | succ d =>
        rw [bl_drop s p (by omega), refF]
        simp only [view_Spells.l1, if_pos (show (p : Int) < (s.size : Int) by omega), if_pos (show (0 : Int) ≤ (p : Int) by omega), w64 (x := (p : Int) + 1) (by omega) (by omega), if_pos (show acc.length < 8796093022208 by omega)]
        by_cases e : bt s (p : Int) = c
        · simp only [if_pos e, if_true]
          have h := (ih d (by omega)).2 (p + 1) q acc (by omega) (by omega)
          obtain ⟨g1, g2⟩ := set_last acc ⟨(q : Int), (p : Int)⟩ ⟨(q : Int), (p : Int) + 1⟩
          rw [g2]
          simp only []
          rw [g1]
          rw [show (((p + 1 : Nat) : Int)) = (p : Int) + 1 by omega] at h
          exact h
        · simp only [if_neg e]
          have h := (ih d (by omega)).1 (p + 1) (acc ++ [⟨(q : Int), (p : Int)⟩]) (by omega) (by simp; omega)
          rw [show (((p + 1 : Nat) : Int)) = (p : Int) + 1 by omega] at h
          exact h
    refine ⟨?_, L1⟩
    intro p acc hp ha
    refine ev_succ ?_
    cases d with
    | zero =>
      simp only [view_Spells.l0, if_neg (show ¬ (p : Int) < (s.size : Int) by omega)]
      rw [List.drop_of_length_le (by rw [bl_length]; omega), refF]
      exact Ev.now _
    | succ d =>
      rw [bl_drop s p (by omega), refF]
      simp only [view_Spells.l0, if_pos (show (p : Int) < (s.size : Int) by omega), if_pos (show (0 : Int) ≤ (p : Int) by omega), w64 (x := (p : Int) + 1) (by omega) (by omega)]
      by_cases e : bt s (p : Int) = c
      · simp only [if_pos e, Bool.false_eq_true, if_false]
        refine ev_succ ?_
        simp only [view_Spells.l1, if_pos (show (p : Int) < (s.size : Int) by omega), if_pos (show (0 : Int) ≤ (p : Int) by omega), w64 (x := (p : Int) + 1) (by omega) (by omega), if_pos e]
        have h := (ih d (by omega)).2 (p + 1) p acc (by omega) (by omega)
        rw [show (((p + 1 : Nat) : Int)) = (p : Int) + 1 by omega] at h
        exact h
      · simp only [if_neg e]
        have h := (ih d (by omega)).1 (p + 1) acc (by omega) (by omega)
        rw [show (((p + 1 : Nat) : Int)) = (p : Int) + 1 by omega] at h
        exact h
def spellsS (a : Int) (l : List Int) : List S66 := if 0 ≤ a ∧ a < 4 then refF (lt a) [] 0 false l else []
theorem spells_f (s : ByteArray) (hs : s.size ≤ 1000000) (a : Int) : Ev (fun k => view_Spells.f k s a) (spellsS a (bl s)) := by
  unfold view_Spells.f spellsS
  rw [letter_f]
  by_cases h : 0 ≤ a ∧ a < 4
  · simp only [if_pos h, Option.bind_some, if_true]
    exact (spells_l s hs (lt a) s.size).1 0 [] (by omega) (Nat.le_refl _)
  · simp only [if_neg h, Option.bind_some, Bool.false_eq_true, if_false]
    exact Ev.now _

/-! the view of a timeline -/
def SB (l : List UInt8) : ByteArray := ⟨l.toArray⟩
theorem minsR_snd (r : Rec) (d : Nat) : (minsR r d).map (fun p => p.2) = List.replicate d r.1 := by
  unfold minsR
  rw [List.map_map]
  apply List.ext_getElem
  · simp
  · intro i h1 h2
    simp
theorem mins_kinds (l : List S50) : (mins (l.map view_Of.tQ)).map (fun p => p.2) = kindsS l := by
  induction l with
  | nil => rfl
  | cons r l ih =>
    simp only [mins, List.map_cons, List.flatMap_cons, List.map_append, kindsS] at ih ⊢
    rw [ih, minsR_snd]
    rfl
theorem txt_kinds (l : List S50) : txt (mins (l.map view_Of.tQ)) = (kindsS l).map letter := by
  rw [← mins_kinds, List.map_map]
  rfl
theorem TL_okR (l : List S50) : ∀ p, TL p l → l.all view_Of.okR = true := by
  induction l with
  | nil => intro p _; rfl
  | cons r l ih =>
    intro p h
    have h0 := flt_zero h.1
    rw [List.all_cons, ih _ h.2.2, Bool.and_true]
    exact decide_eq_true (by omega)
def ofV (l : List S50) : Int × ByteArray × Int := if (chkS l 0 none).2 = 0 then (begS l, SB ((kindsS l).map letter), 0) else (0, ⟨#[]⟩, (chkS l 0 none).2)
theorem vof_f (l : List S50) (hl : l.length ≤ maxLen) : Ev (fun k => view_Of.f k l) (ofV l) := by
  unfold view_Of.f ofV
  refine Ev.bind (check_f l hl) ?_
  by_cases h : (chkS l 0 none).2 = 0
  · simp only [if_pos h]
    have hT := (chk_TL l 0 none).1 h
    unfold view_Of.ofS
    by_cases h0 : l.length = 0
    · obtain rfl := List.length_eq_zero_iff.1 h0
      simp only [if_pos h0]
      exact Ev.now _
    · simp only [if_neg h0]
      have hm : (mins (l.map view_Of.tQ)).length = (kindsS l).length := by rw [← mins_kinds, List.length_map]
      have hk := TL_len l hT
      rw [if_pos ⟨TL_okR l none hT, by omega⟩, txt_kinds]
      have hb : (rd_T50 l 0).f1 = begS l := by
        cases l with
        | nil => exact absurd rfl h0
        | cons r t => rfl
      rw [hb]
      exact Ev.now _
  · simp only [if_neg h]
    exact Ev.now _

/-! the timeline of a view -/
def kindsOf : List Int → Option (List Int)
  | [] => some []
  | x :: t => if (kd x).2 = true then (kindsOf t).map (fun l => (kd x).1 :: l) else none
def fromV (at_ : Int) (s : ByteArray) : List S50 × Int := if at_ < 0 ∨ at_ > 40320 ∨ (s.size : Int) > 40320 - at_ then ([], 4) else match kindsOf (bl s) with | none => ([], 2) | some ks => (ofFold [] at_ ks, 0)
theorem kd_inj (x y : Int) (hx : (kd x).2 = true) (hy : (kd y).2 = true) (h : (kd x).1 = (kd y).1) : x = y := by
  rcases kd_cases x with ⟨rfl, e⟩ | ⟨rfl, e⟩ | ⟨rfl, e⟩ | ⟨rfl, e⟩ | ⟨_, _, _, _, e⟩ <;> rw [e] at h hx <;>
  rcases kd_cases y with ⟨rfl, f⟩ | ⟨rfl, f⟩ | ⟨rfl, f⟩ | ⟨rfl, f⟩ | ⟨_, _, _, _, f⟩ <;> rw [f] at h hy <;> simp at h hx hy <;> rfl
theorem from_l0 (at_ : Int) (h0 : 0 ≤ at_) (h1 : at_ ≤ 40320) (s : ByteArray) (hs : s.size ≤ 40320) (d : Nat) : ∀ (p : Nat) (acc : List S50), p + d = s.size → acc.length ≤ p →
    ((p = 0 ∧ acc = []) ∨ (0 < p ∧ ∃ a0 e, acc = a0 ++ [e] ∧ e.f0 = (kd (bt s ((p : Int) - 1))).1 ∧ (kd (bt s ((p : Int) - 1))).2 = true ∧ e.f2 = at_ + p)) →
    Ev (fun k => view_From.l0 k at_ s acc (s.size : Int) (p : Int)) (match kindsOf ((bl s).drop p) with | none => ([], 2) | some ks => (ofFold acc (at_ + p) ks, 0)) := by
  induction d with
  | zero =>
    intro p acc hp hl ha
    refine ev_succ ?_
    simp only [view_From.l0, if_neg (show ¬ (p : Int) < (s.size : Int) by omega)]
    rw [List.drop_of_length_le (by rw [bl_length]; omega)]
    simp only [kindsOf, ofFold]
    exact Ev.now _
  | succ d ih =>
    intro p acc hp hl ha
    have hb := bt_range s (p : Int)
    rw [bl_drop s p (by omega), kindsOf]
    refine ev_succ ?_
    simp only [view_From.l0, if_pos (show (p : Int) < (s.size : Int) by omega), if_pos (show (0 : Int) ≤ (p : Int) by omega)]
    rw [vkind_f _ hb.1 hb.2]
    simp only [Option.bind_some]
    by_cases v : (kd (bt s (p : Int))).2 = true
    · simp only [if_pos v]
      have hnx : ∀ e : S50, ∀ a0, stepR acc ⟨(kd (bt s (p : Int))).1, at_ + p, at_ + p + 1⟩ = a0 ++ [e] → (a0 ++ [e]).length ≤ p + 1 → e.f0 = (kd (bt s (p : Int))).1 → e.f2 = at_ + p + 1 →
          Ev (fun k => view_From.l0 k at_ s (a0 ++ [e]) (s.size : Int) ((p : Int) + 1)) (match (kindsOf ((bl s).drop (p + 1))).map (fun l => (kd (bt s (p : Int))).1 :: l) with | none => ([], 2) | some ks => (ofFold acc (at_ + p) ks, 0)) := by
        intro e a0 hst hlen he0 he2
        have h := ih (p + 1) (a0 ++ [e]) (by omega) hlen (.inr ⟨by omega, a0, e, rfl, by rw [show (((p + 1 : Nat) : Int)) - 1 = (p : Int) by omega]; exact he0, by rw [show (((p + 1 : Nat) : Int)) - 1 = (p : Int) by omega]; exact v, by rw [he2]; omega⟩)
        rw [show (((p + 1 : Nat) : Int)) = (p : Int) + 1 by omega] at h
        cases hk : kindsOf ((bl s).drop (p + 1)) with
        | none =>
          rw [hk] at h
          exact h
        | some ks =>
          rw [hk] at h
          simp only [Option.map_some, ofFold]
          rw [hst, Int.add_assoc]
          exact h
      have hw1 : wrap64 ((p : Int) + 1) = (p : Int) + 1 := w64 (by omega) (by omega)
      have hw2 : wrap64 (at_ + (p : Int)) = at_ + p := w64 (by omega) (by omega)
      have hw3 : wrap64 (at_ + (p : Int) + 1) = at_ + p + 1 := w64 (by omega) (by omega)
      rcases ha with ⟨rfl, rfl⟩ | ⟨p0, a0, e, rfl, he0, hev, he2⟩
      · simp only [if_neg (show ¬ (((0 : Nat) : Int) > 0) by omega), hw1, hw2, hw3, List.length_nil, if_pos (show 0 < 5864062014805 by omega)]
        exact hnx ⟨(kd (bt s ((0 : Nat) : Int))).1, at_ + ((0 : Nat) : Int), at_ + ((0 : Nat) : Int) + 1⟩ [] (stepR_nil _) (by simp) rfl rfl
      · simp only [if_pos (show (p : Int) > 0 by omega), w64 (x := (p : Int) - 1) (by omega) (by omega), if_pos (show (0 : Int) ≤ (p : Int) - 1 by omega), if_pos (show (p : Int) - 1 < (s.size : Int) by omega), hw1, hw2, hw3]
        have hlen : (a0 ++ [e]).length = a0.length + 1 := by simp
        by_cases c : bt s (p : Int) = bt s ((p : Int) - 1)
        · simp only [if_pos c, w64 (x := ((a0 ++ [e]).length : Int) - 1) (by omega) (by omega), if_pos (show (0 : Int) ≤ ((a0 ++ [e]).length : Int) - 1 by omega), if_pos (show ((a0 ++ [e]).length : Int) - 1 < ((a0 ++ [e]).length : Int) by omega)]
          rw [rd_last]
          have hw4 : wrap64 (e.f2 + 1) = at_ + p + 1 := by rw [he2]; exact hw3
          simp only [hw4]
          rw [show (((a0 ++ [e]).length : Int) - 1).toNat = a0.length by omega, List.set_append_right _ _ (Nat.le_refl _), Nat.sub_self, List.set_cons_zero]
          rw [← c] at he0
          have hst : stepR (a0 ++ [e]) ⟨(kd (bt s (p : Int))).1, at_ + p, at_ + p + 1⟩ = a0 ++ [⟨e.f0, e.f1, at_ + p + 1⟩] := by rw [stepR_snoc, if_pos he0]
          have := hnx ⟨e.f0, e.f1, at_ + p + 1⟩ a0 hst (by simp; omega) he0 rfl
          rw [c] at this ⊢
          exact this
        · have hne : ¬ e.f0 = (kd (bt s (p : Int))).1 := fun q => c (kd_inj _ _ v hev (by rw [← q, he0]))
          simp only [if_neg c, if_pos (show (a0 ++ [e]).length < 5864062014805 by omega)]
          have hst : stepR (a0 ++ [e]) ⟨(kd (bt s (p : Int))).1, at_ + p, at_ + p + 1⟩ = (a0 ++ [e]) ++ [⟨(kd (bt s (p : Int))).1, at_ + p, at_ + p + 1⟩] := by
            rw [stepR_snoc, if_neg hne]
            simp
          exact hnx _ _ hst (by simp; omega) rfl rfl
    · simp only [if_neg v]
      exact Ev.now _
theorem from_f (at_ : Int) (ha : -9223372036854775808 ≤ at_) (s : ByteArray) : Ev (fun k => view_From.f k at_ s) (fromV at_ s) := by
  unfold view_From.f fromV
  have hbad : Ev (fun k => view_From.j0 k at_ s true) (([] : List S50), (4 : Int)) := by
    refine ev_succ ?_
    simp only [view_From.j0, if_true]
    exact Ev.now _
  by_cases c1 : at_ < 0
  · simp only [if_pos c1]
    rw [if_pos (.inl c1)]
    exact hbad
  by_cases c2 : at_ > 40320
  · simp only [if_neg c1, if_pos c2]
    rw [if_pos (.inr (.inl c2))]
    exact hbad
  simp only [if_neg c1, if_neg c2, w64 (x := 40320 - at_) (by omega) (by omega)]
  by_cases c3 : (s.size : Int) > 40320 - at_
  · rw [if_pos (.inr (.inr c3)), decide_eq_true c3]
    exact hbad
  · rw [if_neg (by omega), decide_eq_false c3]
    refine ev_succ ?_
    simp only [view_From.j0, Bool.false_eq_true, if_false]
    have h := from_l0 at_ (by omega) (by omega) s (by omega) s.size 0 [] (by omega) (Nat.le_refl _) (.inl ⟨rfl, rfl⟩)
    rw [List.drop_zero, show at_ + ((0 : Nat) : Int) = at_ by omega] at h
    exact h

/-! the timeline of kinds may be, and has just these kinds -/
theorem flt_ok {a b c : Int} (h1 : 0 ≤ a) (h2 : a ≤ 3) (h3 : 0 ≤ b) (h4 : b < c) (h5 : c ≤ 40320) : fltS a b c = 0 := by
  unfold fltS
  rw [if_neg (by omega), if_neg (by omega), if_neg (by omega)]
def lastE : Option Int → List S50 → Option Int
  | p, [] => p
  | _, r :: l => lastE (some r.f2) l
theorem TL_app (a b : List S50) : ∀ p, TL p (a ++ b) ↔ TL p a ∧ TL (lastE p a) b := by
  induction a with
  | nil => intro p; simp [TL, lastE]
  | cons r a ih =>
    intro p
    simp only [List.cons_append, TL, lastE, ih, and_assoc]
theorem lastE_app (a : List S50) (e : S50) : ∀ p, lastE p (a ++ [e]) = some e.f2 := by
  induction a with
  | nil => intro p; rfl
  | cons r a ih => intro p; exact ih _
theorem kindsS_app (a b : List S50) : kindsS (a ++ b) = kindsS a ++ kindsS b := by simp [kindsS]
theorem kindsS_one (r : S50) : kindsS [r] = List.replicate (r.f2 - r.f1).toNat r.f0 := by simp [kindsS]
theorem begS_app (a b : List S50) (h : a ≠ []) : begS (a ++ b) = begS a := by
  cases a with
  | nil => exact absurd rfl h
  | cons r a => rfl
theorem fold_ok (ks : List Int) : ∀ (acc : List S50) (m : Int), (∀ k ∈ ks, 0 ≤ k ∧ k ≤ 3) → 0 ≤ m → m + ks.length ≤ 40320 → TL none acc → (acc = [] ∨ ∃ a0 e, acc = a0 ++ [e] ∧ e.f2 = m) →
    TL none (ofFold acc m ks) ∧ kindsS (ofFold acc m ks) = kindsS acc ++ ks ∧ (acc ≠ [] → begS (ofFold acc m ks) = begS acc) ∧ (acc = [] → ks ≠ [] → begS (ofFold acc m ks) = m) := by
  induction ks with
  | nil =>
    intro acc m _ _ _ hT _
    exact ⟨hT, by simp [ofFold], fun _ => rfl, fun _ h => absurd rfl h⟩
  | cons k ks ih =>
    intro acc m hk hm hl hT ha
    have hk0 := hk k List.mem_cons_self
    simp only [List.length_cons] at hl
    have key : TL none (stepR acc ⟨k, m, m + 1⟩) ∧ (∃ a0 e, stepR acc ⟨k, m, m + 1⟩ = a0 ++ [e] ∧ e.f2 = m + 1) ∧ kindsS (stepR acc ⟨k, m, m + 1⟩) = kindsS acc ++ [k] ∧ (acc ≠ [] → begS (stepR acc ⟨k, m, m + 1⟩) = begS acc) ∧ (acc = [] → begS (stepR acc ⟨k, m, m + 1⟩) = m) := by
      have hf := flt_ok hk0.1 hk0.2 hm (by omega : m < m + 1) (by omega)
      have hone : kindsS [(⟨k, m, m + 1⟩ : S50)] = [k] := by
        rw [kindsS_one]
        simp only []
        rw [show (m + 1 - m).toNat = 1 by omega]
        rfl
      rcases ha with rfl | ⟨a0, e, rfl, he⟩
      · rw [stepR_nil]
        exact ⟨⟨hf, (fun e h => by cases h), trivial⟩, ⟨[], _, rfl, rfl⟩, by rw [hone]; rfl, fun h => absurd rfl h, fun _ => rfl⟩
      · rw [TL_app] at hT
        have hfe := flt_zero hT.2.1
        rw [stepR_snoc]
        by_cases c : e.f0 = k
        · rw [if_pos (by exact c)]
          refine ⟨(TL_app _ _ _).2 ⟨hT.1, flt_ok hfe.1 hfe.2.1 hfe.2.2.1 (by simp only []; omega) (by simp only []; omega), hT.2.2.1, trivial⟩, ⟨a0, _, rfl, rfl⟩, ?_, ?_, fun h => by simp at h⟩
          · rw [kindsS_app, kindsS_app, kindsS_one, kindsS_one, List.append_assoc]
            congr 1
            simp only []
            rw [show (m + 1 - e.f1).toNat = (e.f2 - e.f1).toNat + 1 by omega, List.replicate_succ', c]
          · intro _
            cases a0 with
            | nil => rfl
            | cons r t => rfl
        · rw [if_neg (by exact c), show a0 ++ [e, (⟨k, m, m + 1⟩ : S50)] = (a0 ++ [e]) ++ [⟨k, m, m + 1⟩] by simp]
          refine ⟨(TL_app _ _ _).2 ⟨(TL_app _ _ _).2 hT, hf, fun q hq => ?_, trivial⟩, ⟨_, _, rfl, rfl⟩, by rw [kindsS_app (a0 ++ [e]), hone], fun h => begS_app _ _ h, fun h => by simp at h⟩
          rw [lastE_app] at hq
          injection hq with hq
          rw [← hq, he]
    obtain ⟨g1, g2, g3, g4, g5⟩ := key
    rw [ofFold]
    obtain ⟨i1, i2, i3, i4⟩ := ih (stepR acc ⟨k, m, m + 1⟩) (m + 1) (fun x hx => hk x (List.mem_cons_of_mem _ hx)) (by omega) (by omega) g1 (.inr g2)
    have hne : stepR acc ⟨k, m, m + 1⟩ ≠ [] := by
      obtain ⟨a0, e, h, _⟩ := g2
      rw [h]
      simp
    exact ⟨i1, by rw [i2, g3, List.append_assoc]; rfl, fun h => by rw [i3 hne, g4 h], fun h _ => by rw [i3 hne, g5 h]⟩
theorem kindsOf_ok (xs : List Int) (hx : ∀ x ∈ xs, 0 ≤ x ∧ x ≤ 255) : ∀ ks, kindsOf xs = some ks → (∀ k ∈ ks, 0 ≤ k ∧ k ≤ 3) ∧ (ks.map letter).map (fun c => (c.toNat : Int)) = xs := by
  induction xs with
  | nil => intro ks h; simp [kindsOf] at h; subst h; exact ⟨by simp, rfl⟩
  | cons x t ih =>
    intro ks h
    rw [kindsOf] at h
    split at h
    · rename_i hv
      obtain ⟨l, hl, rfl⟩ := Option.map_eq_some_iff.1 h
      obtain ⟨h1, h2⟩ := ih (fun y hy => hx y (List.mem_cons_of_mem _ hy)) l hl
      have hl2 : (0 ≤ (kd x).1 ∧ (kd x).1 ≤ 3) ∧ ((letter (kd x).1).toNat : Int) = x := by
        rcases kd_cases x with ⟨rfl, e⟩ | ⟨rfl, e⟩ | ⟨rfl, e⟩ | ⟨rfl, e⟩ | ⟨_, _, _, _, e⟩
        · rw [e]; exact ⟨by simp, rfl⟩
        · rw [e]; exact ⟨by simp, rfl⟩
        · rw [e]; exact ⟨by simp, rfl⟩
        · rw [e]; exact ⟨by simp, rfl⟩
        · rw [e] at hv; simp at hv
      refine ⟨fun k hk => ?_, ?_⟩
      · rcases List.mem_cons.1 hk with rfl | hk
        · exact hl2.1
        · exact h1 k hk
      · simp only [List.map_cons, hl2.2]
        rw [h2]
    · cases h
theorem SB_toList (l : List UInt8) : (SB l).toList = l := by
  rw [ByteArray.toList_eq]
  simp [SB]
theorem back_str (s : ByteArray) (ks : List Int) (h : kindsOf (bl s) = some ks) : (SB (ks.map letter)).toList = s.toList := by
  have h2 := (kindsOf_ok (bl s) (bl_range s) ks h).2
  rw [SB_toList, ByteArray.toList_eq]
  unfold bl at h2
  refine (List.map_inj_right ?_).1 h2
  intro x y hxy
  exact UInt8.toNat_inj.1 (by omega)

/-! where a spell is -/
def hasL (L : List S66) (i : Int) : Bool := L.any fun x => decide (x.f0 ≤ i ∧ i < x.f1)
theorem rd66_drop (xs : List S66) (i : Nat) (h : i < xs.length) : xs.drop i = rd_T66 xs (i : Int) :: xs.drop (i + 1) := by
  rw [List.drop_eq_getElem_cons h]
  simp [rd_T66, h]
theorem has_f (L : List S66) (hl : L.length ≤ 1000000000) (i : Int) : Ev (fun k => haulierref03_Has.f k L i) (hasL L i) := by
  unfold haulierref03_Has.f
  have : ∀ d (j : Nat), j + d = L.length → Ev (fun k => haulierref03_Has.l0 k L i (j : Int)) (hasL (L.drop j) i) := by
    intro d
    induction d with
    | zero =>
      intro j hj
      refine ev_succ ?_
      simp only [haulierref03_Has.l0, if_neg (show ¬ (j : Int) < (L.length : Int) by omega)]
      rw [List.drop_of_length_le (by omega)]
      exact Ev.now _
    | succ d ih =>
      intro j hj
      have h := ih (j + 1) (by omega)
      rw [show (((j + 1 : Nat) : Int)) = (j : Int) + 1 by omega] at h
      rw [rd66_drop L j (by omega)]
      refine ev_succ ?_
      have e : haulierref02_Has.f (rd_T66 L (j : Int)).f0 (rd_T66 L (j : Int)).f1 i = some (decide ((rd_T66 L (j : Int)).f0 ≤ i ∧ i < (rd_T66 L (j : Int)).f1)) := by
        unfold haulierref02_Has.f
        by_cases c : (rd_T66 L (j : Int)).f0 ≤ i
        · rw [if_pos c]
          simp [c]
        · rw [if_neg c]
          simp [c]
      simp only [haulierref03_Has.l0, if_pos (show (j : Int) < (L.length : Int) by omega), if_pos (show (0 : Int) ≤ (j : Int) by omega), w64 (x := (j : Int) + 1) (by omega) (by omega), e, Option.bind_some]
      unfold hasL at h ⊢
      rw [List.any_cons]
      cases c : decide ((rd_T66 L (j : Int)).f0 ≤ i ∧ i < (rd_T66 L (j : Int)).f1)
      · simp only [Bool.false_eq_true, if_false, Bool.false_or]
        exact h
      · simp only [if_true, Bool.true_or]
        exact Ev.now _
  exact this L.length 0 (by omega)
theorem hasL_app (a b : List S66) (i : Int) : hasL (a ++ b) i = (hasL a i || hasL b i) := by simp [hasL]
theorem refF_has (c : Int) (xs : List Int) : ∀ (acc : List S66) (p : Nat) (pv : Bool) (i : Nat), (pv = true → ∃ a0 f, acc = a0 ++ [⟨f, (p : Int)⟩] ∧ f ≤ (p : Int)) →
    hasL (refF c acc p pv xs) (i : Int) = (hasL acc (i : Int) || decide (p ≤ i ∧ xs[i - p]? = some c)) := by
  induction xs with
  | nil => intro acc p pv i _; simp [refF]
  | cons x t ih =>
    intro acc p pv i hpv
    have hshift : (decide (p ≤ i ∧ (x :: t)[i - p]? = some c)) = (decide (i = p ∧ x = c) || decide (p + 1 ≤ i ∧ t[i - (p + 1)]? = some c)) := by
      by_cases e : i = p
      · subst e
        simp
        intro h
        omega
      · by_cases g : p ≤ i
        · obtain ⟨q, rfl⟩ : ∃ q, i = p + 1 + q := ⟨i - p - 1, by omega⟩
          rw [show p + 1 + q - p = q + 1 by omega, show p + 1 + q - (p + 1) = q by omega, List.getElem?_cons_succ]
          have e1 : ¬ (p + 1 + q = p ∧ x = c) := by omega
          rw [decide_eq_false e1, Bool.false_or]
          congr 1
          exact propext ⟨fun h => ⟨by omega, h.2⟩, fun h => ⟨by omega, h.2⟩⟩
        · rw [decide_eq_false (by omega), decide_eq_false (by omega), decide_eq_false (by omega)]
          rfl
    rw [hshift, refF]
    by_cases h : x = c
    · rw [if_pos h]
      by_cases v : pv = true
      · rw [if_pos v]
        obtain ⟨a0, f, rfl, hf⟩ := hpv v
        obtain ⟨g1, g2⟩ := set_last a0 ⟨f, (p : Int)⟩ ⟨f, (p : Int) + 1⟩
        rw [g2]
        simp only []
        rw [g1, ih _ _ _ _ (fun _ => ⟨a0, f, by rw [show (((p + 1 : Nat) : Int)) = (p : Int) + 1 by omega], by omega⟩), hasL_app, hasL_app]
        have e2 : hasL [(⟨f, (p : Int) + 1⟩ : S66)] (i : Int) = (hasL [(⟨f, (p : Int)⟩ : S66)] (i : Int) || decide (i = p ∧ x = c)) := by
          unfold hasL
          simp only [List.any_cons, List.any_nil, Bool.or_false]
          rw [← Bool.decide_or]
          congr 1
          apply propext
          constructor
          · intro q
            by_cases r : i = p
            · exact .inr ⟨r, h⟩
            · exact .inl (by omega)
          · rintro (q | ⟨q, _⟩)
            · omega
            · subst q
              omega
        rw [e2]
        simp only [Bool.or_assoc]
      · rw [if_neg v, ih _ _ _ _ (fun _ => ⟨acc, (p : Int), by rw [show (((p + 1 : Nat) : Int)) = (p : Int) + 1 by omega], by omega⟩), hasL_app]
        have e2 : hasL [(⟨(p : Int), (p : Int) + 1⟩ : S66)] (i : Int) = decide (i = p ∧ x = c) := by
          unfold hasL
          simp only [List.any_cons, List.any_nil, Bool.or_false]
          congr 1
          apply propext
          constructor
          · intro q
            exact ⟨by omega, h⟩
          · rintro ⟨q, _⟩
            subst q
            omega
        rw [e2]
        simp only [Bool.or_assoc]
    · rw [if_neg h, ih _ _ _ _ (by simp), decide_eq_false (show ¬ (i = p ∧ x = c) from fun q => h q.2), Bool.false_or]
theorem spells_has (a : Int) (s : ByteArray) (i : Nat) (hi : i < s.size) : hasL (spellsS a (bl s)) (i : Int) = decide (kd (bt s (i : Int)) = (a, true)) := by
  unfold spellsS
  by_cases h : 0 ≤ a ∧ a < 4
  · rw [if_pos h, refF_has _ _ _ _ _ _ (by simp)]
    simp only [hasL, List.any_nil, Bool.false_or, Nat.zero_le, true_and, Nat.sub_zero]
    rw [bt_bl s i hi]
    congr 1
    rw [Option.some.injEq]
    exact propext (kd_lt _ a h).symm
  · rw [if_neg h]
    simp only [hasL, List.any_nil]
    refine (decide_eq_false (fun e => h ?_)).symm
    rcases kd_cases (bt s (i : Int)) with ⟨_, f⟩ | ⟨_, f⟩ | ⟨_, f⟩ | ⟨_, f⟩ | ⟨_, _, _, _, f⟩ <;> rw [f] at e <;> simp only [Prod.mk.injEq] at e <;> omega

theorem back_l0 (s : ByteArray) (hs : s.size ≤ 3000) (a : Int) (L : List S66) (hL : L = spellsS a (bl s)) (hl : L.length ≤ 1000000000) (d : Nat) : ∀ i : Nat, i + d = s.size → Ev (fun k => haulierlaw09_ViewBack.l0 k s a L (s.size : Int) (i : Int)) true := by
  induction d with
  | zero =>
    intro i hi
    refine ev_succ ?_
    simp only [haulierlaw09_ViewBack.l0, if_neg (show ¬ (i : Int) < (s.size : Int) by omega)]
    exact Ev.bind alive_f (Ev.now _)
  | succ d ih =>
    intro i hi
    have h := ih (i + 1) (by omega)
    rw [show (((i + 1 : Nat) : Int)) = (i : Int) + 1 by omega] at h
    have hb := bt_range s (i : Int)
    refine ev_succ ?_
    simp only [haulierlaw09_ViewBack.l0, if_pos (show (i : Int) < (s.size : Int) by omega), if_pos (show (0 : Int) ≤ (i : Int) by omega), w64 (x := (i : Int) + 1) (by omega) (by omega)]
    rw [vkind_f _ hb.1 hb.2]
    simp only [Option.bind_some]
    refine Ev.bind (has_f L hl (i : Int)) ?_
    rw [hL, spells_has a s i (by omega)] 
    rw [hL] at h
    by_cases v : (kd (bt s (i : Int))).2 = true
    · simp only [if_pos v]
      have e : decide (kd (bt s (i : Int)) = (a, true)) = ((kd (bt s (i : Int))).1 == a) := by
        by_cases q : (kd (bt s (i : Int))).1 = a
        · rw [beq_iff_eq.mpr q]
          exact decide_eq_true (Prod.ext q v)
        · rw [beq_eq_false_iff_ne.mpr q]
          exact decide_eq_false (fun r => q (by rw [r]))
      rw [e]
      simp only [bne_self_eq_false, Bool.false_eq_true, if_false]
      exact h
    · simp only [if_neg v]
      rw [decide_eq_false (fun r => v (by rw [r]))]
      simp only [bne_self_eq_false, Bool.false_eq_true, if_false]
      exact h
theorem back_j0 (s : ByteArray) (hs : s.size ≤ 3000) (a : Int) : Ev (fun k => haulierlaw09_ViewBack.j0 k s a) true := by
  refine ev_succ ?_
  simp only [haulierlaw09_ViewBack.j0]
  refine Ev.bind (spells_f s (by omega) a) ?_
  refine back_l0 s hs a _ rfl ?_ s.size 0 (by omega)
  unfold spellsS
  split
  · have := refF_len (lt a) (bl s) [] 0 false
    rw [bl_length] at this
    simp only [List.length_nil] at this
    omega
  · simp
theorem kindsOf_len (xs : List Int) : ∀ ks, kindsOf xs = some ks → ks.length = xs.length := by
  induction xs with
  | nil => intro ks h; simp [kindsOf] at h; subst h; rfl
  | cons x t ih =>
    intro ks h
    rw [kindsOf] at h
    split at h
    · obtain ⟨l, hl, rfl⟩ := Option.map_eq_some_iff.1 h
      simp [ih l hl]
    · cases h
theorem fold_len (ks : List Int) : ∀ (out : List S50) (m : Int), (ofFold out m ks).length ≤ out.length + ks.length := by
  induction ks with
  | nil => intro out m; simp [ofFold]
  | cons k ks ih =>
    intro out m
    rw [ofFold]
    have h1 := ih (stepR out ⟨k, m, m + 1⟩) (m + 1)
    have h2 := stepR_length out ⟨k, m, m + 1⟩
    simp only [List.length_cons]
    omega
theorem ViewBack : haulierlaw09_ViewBack.Pure := by
  intro at_ s a ha hs _
  have ha' := ir_of ha
  unfold IR at ha'
  refine Ev.rounds ?_
  unfold haulierlaw09_ViewBack.f
  by_cases c : (s.size : Int) > 3000
  · simp only [if_pos c]
    exact Ev.bind alive_f (Ev.now _)
  · simp only [if_neg c]
    have hj := back_j0 s (by omega) a
    refine Ev.bind (from_f at_ ha'.1 s) ?_
    unfold fromV
    by_cases b : at_ < 0 ∨ at_ > 40320 ∨ (s.size : Int) > 40320 - at_
    · simp only [if_pos b]
      exact hj
    · simp only [if_neg b]
      cases hk : kindsOf (bl s) with
      | none => exact hj
      | some ks =>
        have hlen := kindsOf_len _ _ hk
        rw [bl_length] at hlen
        have hko := kindsOf_ok (bl s) (bl_range s) ks hk
        obtain ⟨f1, f2, _, f4⟩ := fold_ok ks [] at_ hko.1 (by omega) (by omega) trivial (.inl rfl)
        have hfl := fold_len ks [] at_
        simp only [List.length_nil] at hfl
        simp only [if_true]
        refine Ev.bind (vof_f _ (Nat.le_trans hfl (by unfold maxLen; omega))) ?_
        unfold ofV
        rw [if_pos ((chk_TL _ 0 none).2 f1), f2]
        have e : kindsS ([] : List S50) ++ ks = ks := rfl
        rw [e]
        simp only [if_true, back_str s ks hk]
        by_cases z : (s.size : Int) > 0
        · have hne : ks ≠ [] := by
            intro q
            subst q
            simp at hlen
            omega
          simp only [if_pos z, f4 rfl hne, if_true]
          exact hj
        · simp only [if_neg z]
          exact hj


end Go.Proofs.Ytegmofaiobdilaa.Pure
