/- The bytes of any timeline are as the reference says: lemmas on sums, records, and on the changes of a timeline minute by minute, and the pure statement of DiscEncodes. -/
import Derived.Test.YtjpnfhnmcgejhaaMDiscEncodesx5
set_option linter.unusedVariables false
set_option linter.unusedSimpArgs false
namespace Go.Proofs.Ytjpnfhnmcgejhaa.Pure
open Go.RowKit Go.Proofs.Ytjpnfhnmcgejhaa.MDiscEncodes Go.Proofs.YtjpnfhnmcgejhaaW.PrintWords Go.Proofs.YtjpnfhnmcgejhaaW.PrintLast

theorem w64 {x : Int} (h0 : -9223372036854775808 ≤ x) (h1 : x ≤ 9223372036854775807) : wrap64 x = x := by
  unfold wrap64
  omega
theorem tmod_nn {a : Int} (h : 0 ≤ a) (b : Int) : Int.tmod a b = a % b := by
  rw [Int.tmod_eq_emod_of_nonneg h]
theorem tdiv_nn {a : Int} (h : 0 ≤ a) (b : Int) : Int.tdiv a b = a / b := by
  rw [Int.tdiv_eq_ediv_of_nonneg h]
theorem ev_succ {α : Type} {g : Nat → Option α} {r : α} (h : Ev (fun k => g (k + 1)) r) : Ev g r := by
  obtain ⟨K, h⟩ := h
  refine ⟨K + 1, fun n hn => ?_⟩
  obtain ⟨m, rfl⟩ : ∃ m, n = m + 1 := ⟨n - 1, by omega⟩
  exact h m (by omega)

def IR (x : Int) : Prop := -9223372036854775808 ≤ x ∧ x ≤ 9223372036854775807
theorem ir_of {x : Int} (h : (Lit.int .i64 x).wf = true) : IR x := by simpa [IR, Lit.wf, IntKind.min, IntKind.max, IntKind.signed, IntKind.bits] using h
theorem rd_drop (xs : List Int) (i : Nat) (h : i < xs.length) : xs.drop i = rd xs (i : Int) :: xs.drop (i + 1) := by
  rw [List.drop_eq_getElem_cons h]
  simp [rd, h]
theorem rd_mem (xs : List Int) (i : Nat) (h : i < xs.length) : rd xs (i : Int) ∈ xs := by
  simp [rd, h]

theorem and255 (x : Int) : Go.bits .and .i64 x 255 = x % 256 := by
  unfold Go.bits
  simp only [BitVec.toNat_and, BitVec.toNat_ofInt]
  have h1 : ((255 : Int) % ((2 ^ IntKind.i64.bits : Nat) : Int)).toNat = 2 ^ 8 - 1 := by decide
  have h2 : ((2 ^ IntKind.i64.bits : Nat) : Int) = 18446744073709551616 := by decide
  rw [h1, Nat.and_two_pow_sub_one_eq_mod, IntKind.wrap_i64, h2]
  omega
theorem or8 {b a : Int} (hb0 : 0 ≤ b) (hb1 : b < 256) (ha0 : 0 ≤ a) (ha1 : a < 256) : Go.bits .or .i64 (b * 256) a = b * 256 + a :=
  bits_join .i64 16 (by decide) (fun n h0 h1 => by rw [IntKind.wrap_i64]; omega) 8 (b * 256) a (by omega) (by omega) (by omega) ha0 (by omega) (by omega)

def bl (s : ByteArray) : List Int := s.data.toList.map fun c => (c.toNat : Int)
theorem bl_length (s : ByteArray) : (bl s).length = s.size := by simp [bl]
theorem bl_range (s : ByteArray) : ∀ x ∈ bl s, 0 ≤ x ∧ x ≤ 255 := by
  intro x hx
  simp only [bl, List.mem_map] at hx
  obtain ⟨c, _, rfl⟩ := hx
  have := c.toNat_lt
  omega
theorem bt_bl (s : ByteArray) (i : Nat) (h : i < s.size) : (bl s)[i]? = some (bt s (i : Int)) := by
  unfold bt
  rw [dif_pos (by simpa using h)]
  simp only [bl, List.getElem?_map, Int.toNat_natCast]
  rw [List.getElem?_eq_getElem (by simpa using h)]
  rfl
theorem bl_drop (s : ByteArray) (i : Nat) (h : i < s.size) : (bl s).drop i = bt s (i : Int) :: (bl s).drop (i + 1) := by
  have h1 := bt_bl s i h
  obtain ⟨h2, h3⟩ := List.getElem?_eq_some_iff.1 h1
  rw [List.drop_eq_getElem_cons h2, h3]
theorem bl_append (s t : ByteArray) : bl (s ++ t) = bl s ++ bl t := by simp [bl, ByteArray.data_append]
theorem toList_inj {s t : ByteArray} (h : s.toList = t.toList) : s = t := by
  rw [ByteArray.toList_eq, ByteArray.toList_eq] at h
  cases s; cases t
  simp at h
  rw [h]
theorem bl_inj {s t : ByteArray} (h : bl s = bl t) : s = t := by
  apply toList_inj
  rw [ByteArray.toList_eq, ByteArray.toList_eq]
  unfold bl at h
  refine List.map_inj_right ?_ |>.1 h
  intro x y hxy
  exact UInt8.toNat_inj.1 (by omega)
theorem toList_bl {s t : ByteArray} : s.toList = t.toList ↔ bl s = bl t := by
  constructor
  · intro h; rw [toList_inj h]
  · intro h; rw [bl_inj h]
theorem bl_nums (xs : List Int) (h : ∀ x ∈ xs, 0 ≤ x ∧ x ≤ 255) : bl (strOfNums xs) = xs := by
  unfold bl strOfNums
  simp only [List.map_map]
  conv => rhs; rw [← List.map_id xs]
  apply List.map_congr_left
  intro x hx
  have := h x hx
  simp only [Function.comp]
  rw [UInt8.toNat_ofNat']
  simp
  omega
theorem bl_extract (s : ByteArray) (i j : Nat) : bl (s.extract i j) = ((bl s).take j).drop i := by
  simp [bl, ByteArray.data_extract, List.map_drop, List.map_take, List.drop_take]
theorem size_bl (s : ByteArray) : s.size = (bl s).length := (bl_length s).symm

def stF (p : Int × Int) (c : Int) : Int × Int := ((p.1 + c) % 255, (p.2 + (p.1 + c) % 255) % 255)
def fl (p : Int × Int) (l : List Int) : Int × Int := l.foldl stF p
def fin (p : Int × Int) : Int := p.2 * 256 + p.1
def Lo (p : Int × Int) : Prop := 0 ≤ p.1 ∧ p.1 < 255 ∧ 0 ≤ p.2 ∧ p.2 < 255
theorem stF_lo (p : Int × Int) (c : Int) : Lo (stF p c) := by
  unfold Lo stF
  simp only
  omega
theorem fl_lo (l : List Int) : ∀ p, Lo p → Lo (fl p l) := by
  induction l with
  | nil => intro p h; exact h
  | cons c l ih => intro p h; exact ih _ (stF_lo p c)
theorem fl_app (p : Int × Int) (l m : List Int) : fl p (l ++ m) = fl (fl p l) m := by simp [fl]
def begF (n : Int) : Int × Int := (n % 256 % 255, n / 256 % 256 % 255)
theorem begF_lo (n : Int) : Lo (begF n) := by
  unfold Lo begF
  simp only
  omega
def sm (s : ByteArray) : Int := fin (fl (0, 0) (bl s))
theorem lo0 : Lo (0, 0) := by unfold Lo; simp
theorem fin_range {p : Int × Int} (h : Lo p) : 0 ≤ fin p ∧ fin p ≤ 65278 := by
  unfold Lo at h
  unfold fin
  omega
theorem begF_fin {p : Int × Int} (h : Lo p) : begF (fin p) = p := by
  obtain ⟨a, b⟩ := p
  unfold Lo at h
  unfold begF fin
  simp only at h ⊢
  refine Prod.ext ?_ ?_ <;> simp only <;> omega
theorem add_l0 (s : ByteArray) (hs : s.size ≤ 140737488351232) (d : Nat) : ∀ (i : Nat) (a b : Int), i + d = s.size → Lo (a, b) →
    Ev (fun k => sum16_Add.l0 k s a b (s.size : Int) (i : Int)) (fin (fl (a, b) ((bl s).drop i))) := by
  induction d with
  | zero =>
    intro i a b hi hl
    rw [List.drop_of_length_le (by rw [bl_length]; omega)]
    unfold Lo at hl
    refine Ev.step (f := fun _ => some (b * 256 + a)) (fun k => ?_) (Ev.now _)
    simp only [sum16_Add.l0]
    rw [if_neg (by omega), w64 (by omega) (by omega), or8 (by omega) (by omega) (by omega) (by omega)]
  | succ d ih =>
    intro i a b hi hl
    have hr := bt_range s i
    have hl2 := stF_lo (a, b) (bt s i)
    have h := ih (i + 1) _ _ (by omega) hl2
    unfold Lo at hl
    rw [bl_drop s i (by omega)]
    refine Ev.step (fun k => ?_) h
    simp only [sum16_Add.l0]
    rw [if_pos (by omega), if_pos (by omega), if_pos (by omega)]
    rw [w64 (x := bt s i) (by omega) (by omega), w64 (x := a + bt s i) (by omega) (by omega), tmod_nn (by omega), w64 (x := b + (a + bt s i) % 255) (by omega) (by omega), tmod_nn (by omega), w64 (x := (i : Int) + 1) (by omega) (by omega)]
    rfl
theorem add_f (n : Int) (s : ByteArray) (hs : s.size ≤ 140737488351232) : Ev (fun k => sum16_Add.f k n s) (fin (fl (begF n) (bl s))) := by
  have h := add_l0 s hs s.size 0 _ _ (by omega) (begF_lo n)
  refine Ev.congr (fun k => ?_) h
  unfold sum16_Add.f
  rw [and255, and255, tmod_nn (by omega), tmod_nn (by omega)]
  rfl
theorem sum_f (s : ByteArray) (hs : s.size ≤ 140737488351232) : Ev (fun k => sum16_Sum.f k s) (sm s) := by
  unfold sum16_Sum.f
  exact Ev.bind (add_f 0 s hs) (Ev.now _)
theorem radd_l0 (s : ByteArray) (hs : s.size ≤ 140737488351232) (d : Nat) : ∀ (i : Nat) (a b : Int), i + d = s.size → Lo (a, b) →
    Ev (fun k => haulierref05_Add.l0 k s a b (i : Int)) (fin (fl (a, b) ((bl s).drop i))) := by
  induction d with
  | zero =>
    intro i a b hi hl
    rw [List.drop_of_length_le (by rw [bl_length]; omega)]
    unfold Lo at hl
    refine Ev.step (f := fun _ => some (b * 256 + a)) (fun k => ?_) (Ev.now _)
    simp only [haulierref05_Add.l0]
    rw [if_neg (by omega), w64 (x := 256 * b) (by omega) (by omega), w64 (by omega) (by omega), Int.mul_comm]
  | succ d ih =>
    intro i a b hi hl
    have hr := bt_range s i
    have hl2 := stF_lo (a, b) (bt s i)
    have h := ih (i + 1) _ _ (by omega) hl2
    unfold Lo at hl
    rw [bl_drop s i (by omega)]
    refine Ev.step (fun k => ?_) h
    simp only [haulierref05_Add.l0]
    rw [if_pos (by omega), if_pos (by omega)]
    rw [w64 (x := bt s i) (by omega) (by omega), w64 (x := a + bt s i) (by omega) (by omega), tmod_nn (by omega), w64 (x := b + (a + bt s i) % 255) (by omega) (by omega), tmod_nn (by omega), w64 (x := (i : Int) + 1) (by omega) (by omega)]
    rfl
theorem tm (n : Int) : (if Int.tmod n 65536 < 0 then Int.tmod n 65536 + 65536 else Int.tmod n 65536) = n % 65536 := by
  rcases Int.le_total 0 n with h | h
  · rw [tmod_nn h, if_neg (by omega)]
  · obtain ⟨m, rfl⟩ : ∃ m, n = -m := ⟨-n, by omega⟩
    rw [Int.neg_tmod, tmod_nn (by omega)]
    split <;> omega
theorem radd_j0 (s : ByteArray) (hs : s.size ≤ 140737488351232) (n m : Int) (hm : m = n % 65536) : Ev (fun k => haulierref05_Add.j0 k s m) (fin (fl (begF n) (bl s))) := by
  subst hm
  have h := radd_l0 s hs s.size 0 _ _ (by omega) (begF_lo n)
  refine Ev.step (fun k => ?_) h
  simp only [haulierref05_Add.j0]
  rw [tmod_nn (a := n % 65536) (by omega), tdiv_nn (a := n % 65536) (by omega), w64 (x := n % 65536 / 256) (by omega) (by omega), tmod_nn (by omega), tmod_nn (by omega), show n % 65536 % 256 = n % 256 by omega, show n % 65536 / 256 = n / 256 % 256 by omega]
  rfl
theorem radd_f (n : Int) (s : ByteArray) (hs : s.size ≤ 140737488351232) : Ev (fun k => haulierref05_Add.f k n s) (fin (fl (begF n) (bl s))) := by
  have h := tm n
  unfold haulierref05_Add.f
  split
  · rename_i hc
    rw [if_pos hc] at h
    refine radd_j0 s hs n _ ?_
    rw [w64 (by omega) (by omega)]
    exact h
  · rename_i hc
    rw [if_neg hc] at h
    exact radd_j0 s hs n _ h
theorem rsum_f (s : ByteArray) (hs : s.size ≤ 140737488351232) : Ev (fun k => haulierref05_Sum.f k s) (sm s) := by
  unfold haulierref05_Sum.f
  exact Ev.bind (radd_f 0 s hs) (Ev.now _)
def by2l (n : Int) : List Int := [n / 256 % 256, n % 256]
def by2 (n : Int) : ByteArray := strOfNums (by2l n)
theorem bl_by2 (n : Int) : bl (by2 n) = by2l n := by
  refine bl_nums _ ?_
  intro x hx
  simp only [by2l, List.mem_cons, List.not_mem_nil, or_false] at hx
  omega
theorem by2_size (n : Int) : (by2 n).size = 2 := by rw [size_bl, bl_by2]; rfl
theorem bytes_f (n : Int) : sum16_bytes.f n = some (by2 n) := rfl
theorem seal_f (s : ByteArray) (hs : s.size ≤ 140737488351232) : Ev (fun k => sum16_Seal.f k s) (s ++ by2 (sm s)) := by
  unfold sum16_Seal.f
  refine Ev.bind (sum_f s hs) ?_
  simp only [bytes_f, Option.bind_some, by2_size]
  simp only [if_pos (show s.size + 2 ≤ 9223372036854775807 by omega)]
  exact Ev.now _
theorem rput_f (n : Int) (h : 0 ≤ n) (h1 : n ≤ 9223372036854775807) : haulierref05_Put.f n = some (by2 n) := by
  unfold haulierref05_Put.f by2 by2l
  rw [tdiv_nn h, tmod_nn h, w64 (by omega) (by omega), show n % 256 % 256 = n % 256 by omega]
theorem sm_range (s : ByteArray) : 0 ≤ sm s ∧ sm s ≤ 65278 := fin_range (fl_lo _ _ lo0)
theorem rseal_f (s : ByteArray) (hs : s.size ≤ 140737488351232) : Ev (fun k => haulierref05_Seal.f k s) (s ++ by2 (sm s)) := by
  unfold haulierref05_Seal.f
  refine Ev.bind (rsum_f s hs) ?_
  have hr := sm_range s
  simp only [rput_f _ hr.1 (by omega), Option.bind_some, by2_size]
  simp only [if_pos (show s.size + 2 ≤ 9223372036854775807 by omega)]
  exact Ev.now _

theorem rdT_drop (xs : List S48) (i : Nat) (h : i < xs.length) : xs.drop i = rd_T48 xs (i : Int) :: xs.drop (i + 1) := by
  rw [List.drop_eq_getElem_cons h]
  simp [rd_T48, h]
theorem rdT_mem (xs : List S48) (i : Nat) (h : i < xs.length) : rd_T48 xs (i : Int) ∈ xs := by simp [rd_T48, h]
theorem rdT_get (xs : List S48) (i : Nat) (h : i < xs.length) : xs[i]? = some (rd_T48 xs (i : Int)) := by simp [rd_T48, h]
def fltS (a b c : Int) : Int := if a < 0 ∨ a > 3 then 2 else if b < 0 ∨ b > 40320 ∨ c < 0 ∨ c > 40320 then 4 else if c ≤ b then 3 else 0
def chkS : List S48 → Nat → Option Int → Int × Int
  | [], _, _ => (0, 0)
  | r :: l, i, p => if fltS r.f0 r.f1 r.f2 ≠ 0 then ((i : Int), fltS r.f0 r.f1 r.f2) else
    if (∃ e, p = some e ∧ r.f1 > e) then ((i : Int), 5) else if (∃ e, p = some e ∧ r.f1 < e) then ((i : Int), 6) else chkS l (i + 1) (some r.f2)
def prevS (l : List S48) (i : Nat) : Option Int := if i = 0 then none else some (rd_T48 l ((i - 1 : Nat) : Int)).f2

theorem kind_f (a : Int) : record_kind.f a = some (!decide (a < 0 ∨ a > 3)) := by
  unfold record_kind.f
  by_cases h : a ≥ 0
  · rw [if_pos h]; congr 1; by_cases h2 : a < 4 <;> simp [h2] <;> omega
  · rw [if_neg h]; congr 1; simp; omega
theorem in_f (a : Int) : record_in.f a = some (!decide (a < 0 ∨ a > 40320)) := by
  unfold record_in.f
  by_cases h : a ≥ 0
  · rw [if_pos h]; congr 1; by_cases h2 : a ≤ 40320 <;> simp [h2] <;> omega
  · rw [if_neg h]; congr 1; simp; omega
theorem fault_f (a b c : Int) : Ev (fun k => record_fault.f k a b c) (fltS a b c) := by
  unfold record_fault.f fltS
  simp only [kind_f, in_f, Option.bind_some, Bool.not_eq_true', decide_eq_false_iff_not]
  by_cases h1 : a < 0 ∨ a > 3
  · simp only [h1, not_true, if_false, if_true]
    exact Ev.now _
  · simp only [h1, not_false_eq_true, if_true, if_false]
    have hj : ∀ z : Bool, Ev (fun k => record_fault.j0 k z a b c) (if z = true then 4 else if c ≤ b then 3 else 0) := by
      intro z
      refine ev_succ ?_
      simp only [record_fault.j0]
      by_cases hz : z = true
      · simp only [if_pos hz]; exact Ev.now _
      · by_cases hc : c ≤ b
        · simp only [if_neg hz, if_pos hc]; exact Ev.now _
        · simp only [if_neg hz, if_neg hc]; exact Ev.now _
    by_cases h2 : b < 0 ∨ b > 40320
    · have := hj true
      simp only [h2, not_true, if_false]
      rw [if_pos (by omega)]
      simpa using this
    · simp only [h2, not_false_eq_true, if_true]
      have := hj (!!decide (c < 0 ∨ c > 40320))
      by_cases h3 : c < 0 ∨ c > 40320
      · rw [if_pos (by omega)]
        simpa [h3] using this
      · rw [if_neg (by omega)]
        simpa [h3] using this
theorem prevS_pos (l : List S48) (i : Nat) (h : 0 < i) (hi : i ≤ l.length) : prevS l i = some (rd_T48 l ((i : Int) - 1)).f2 := by
  unfold prevS
  rw [if_neg (by omega), show ((i - 1 : Nat) : Int) = (i : Int) - 1 by omega]
theorem prevS_succ (l : List S48) (i : Nat) : prevS l (i + 1) = some (rd_T48 l (i : Int)).f2 := by
  unfold prevS
  rw [if_neg (by omega)]
  rfl
theorem check_l0 (l : List S48) (hl : l.length ≤ maxLen) (d : Nat) : ∀ i : Nat, i + d = l.length → Ev (fun k => record_Check.l0 k l l (l.length : Int) (i : Int)) (chkS (l.drop i) i (prevS l i)) := by
  unfold maxLen at hl
  induction d with
  | zero =>
    intro i hi
    rw [List.drop_of_length_le (by omega)]
    refine ev_succ ?_
    simp only [record_Check.l0, if_neg (show ¬ (i : Int) < (l.length : Int) by omega)]
    exact Ev.now _
  | succ d ih =>
    intro i hi
    rw [rdT_drop l i (by omega)]
    have h := ih (i + 1) (by omega)
    rw [prevS_succ, show (((i + 1 : Nat) : Int)) = (i : Int) + 1 by omega] at h
    refine ev_succ ?_
    simp only [record_Check.l0, chkS, if_pos (show (i : Int) < (l.length : Int) by omega), if_pos (show (0 : Int) ≤ (i : Int) by omega), w64 (x := (i : Int) + 1) (by omega) (by omega), w64 (x := (i : Int) - 1) (by omega) (by omega)]
    refine Ev.bind (fault_f _ _ _) ?_
    by_cases h0 : fltS (rd_T48 l (i : Int)).f0 (rd_T48 l (i : Int)).f1 (rd_T48 l (i : Int)).f2 = 0
    · simp only [if_pos h0, h0, ne_eq, not_true, if_false]
      by_cases hz : (i : Int) = 0
      · have hz2 : i = 0 := by omega
        subst hz2
        simp only [if_pos hz, prevS, if_true]
        rw [if_neg (by rintro ⟨e, he, _⟩; cases he), if_neg (by rintro ⟨e, he, _⟩; cases he)]
        exact h
      · rw [prevS_pos l i (by omega) (by omega)]
        simp only [if_neg hz, if_pos (show 0 ≤ (i : Int) - 1 by omega), if_pos (show (i : Int) - 1 < (l.length : Int) by omega)]
        simp only [Option.some.injEq, exists_eq_left']
        by_cases h5 : (rd_T48 l (i : Int)).f1 > (rd_T48 l ((i : Int) - 1)).f2
        · simp only [if_pos h5]
          exact Ev.now _
        · by_cases h6 : (rd_T48 l (i : Int)).f1 < (rd_T48 l ((i : Int) - 1)).f2
          · simp only [if_neg h5, if_pos h6]
            exact Ev.now _
          · simp only [if_neg h5, if_neg h6]
            exact h
    · simp only [if_neg h0, ne_eq, h0, not_false_eq_true, if_true]
      exact Ev.now _
theorem check_f (l : List S48) (hl : l.length ≤ maxLen) : Ev (fun k => record_Check.f k l) (chkS l 0 none) := by
  unfold record_Check.f
  exact check_l0 l hl l.length 0 (by omega)

theorem rcheck_l0 (l : List S48) (hl : l.length ≤ maxLen) (d : Nat) : ∀ i : Nat, i + d = l.length → Ev (fun k => haulierref08_Check.l0 k l (i : Int)) (chkS (l.drop i) i (prevS l i)) := by
  unfold maxLen at hl
  induction d with
  | zero =>
    intro i hi
    rw [List.drop_of_length_le (by omega)]
    refine ev_succ ?_
    simp only [haulierref08_Check.l0, if_neg (show ¬ (i : Int) < (l.length : Int) by omega)]
    exact Ev.now _
  | succ d ih =>
    intro i hi
    rw [rdT_drop l i (by omega)]
    have h := ih (i + 1) (by omega)
    rw [prevS_succ, show (((i + 1 : Nat) : Int)) = (i : Int) + 1 by omega] at h
    generalize hr : rd_T48 l (i : Int) = r at h
    obtain ⟨a, b, c⟩ := r
    have h3 : ∀ z : Bool, fltS a b c = 0 → (z = true ↔ ∃ e, prevS l i = some e ∧ b > e) → Ev (fun k => haulierref08_Check.j3 k l (i : Int) z a b c) (chkS (⟨a, b, c⟩ :: l.drop (i + 1)) i (prevS l i)) := by
      intro z hf hz
      refine ev_succ ?_
      simp only [haulierref08_Check.j3, chkS, hf, ne_eq, not_true, if_false]
      by_cases hzt : z = true
      · simp only [if_pos hzt, if_pos (hz.1 hzt)]
        exact Ev.now _
      · have hz' : ¬ ∃ e, prevS l i = some e ∧ b > e := fun h => hzt (hz.2 h)
        simp only [if_neg hzt, if_neg hz']
        by_cases hi0 : (i : Int) > 0
        · rw [prevS_pos l i (by omega) (by omega)]
          simp only [if_pos hi0, w64 (x := (i : Int) - 1) (by omega) (by omega), w64 (x := (i : Int) + 1) (by omega) (by omega), if_pos (show 0 ≤ (i : Int) - 1 by omega), if_pos (show (i : Int) - 1 < (l.length : Int) by omega)]
          simp only [Option.some.injEq, exists_eq_left']
          by_cases h6 : b < (rd_T48 l ((i : Int) - 1)).f2
          · simp only [if_pos h6]
            exact Ev.now _
          · simp only [if_neg h6]
            exact h
        · have hz2 : i = 0 := by omega
          subst hz2
          simp only [if_neg hi0, prevS, if_true]
          rw [if_neg (by rintro ⟨e, he, _⟩; cases he)]
          simp only [w64 (x := ((0 : Nat) : Int) + 1) (by omega) (by omega)]
          exact h
    have h2 : ∀ z : Bool, ¬ (a < 0 ∨ a > 3) → (z = true ↔ b < 0 ∨ b > 40320 ∨ c < 0 ∨ c > 40320) → Ev (fun k => haulierref08_Check.j2 k l (i : Int) z a b c) (chkS (⟨a, b, c⟩ :: l.drop (i + 1)) i (prevS l i)) := by
      intro z ha hz
      refine ev_succ ?_
      simp only [haulierref08_Check.j2]
      by_cases hzt : z = true
      · have hf : fltS a b c = 4 := by unfold fltS; rw [if_neg ha, if_pos (hz.1 hzt)]
        simp only [if_pos hzt, chkS, hf]
        exact Ev.now _
      · have hz' : ¬ (b < 0 ∨ b > 40320 ∨ c < 0 ∨ c > 40320) := fun h => hzt (hz.2 h)
        by_cases hcb : c ≤ b
        · have hf : fltS a b c = 3 := by unfold fltS; rw [if_neg ha, if_neg hz', if_pos hcb]
          simp only [if_neg hzt, if_pos hcb, chkS, hf]
          exact Ev.now _
        · have hf : fltS a b c = 0 := by unfold fltS; rw [if_neg ha, if_neg hz', if_neg hcb]
          simp only [if_neg hzt, if_neg hcb]
          by_cases hi0 : (i : Int) > 0
          · simp only [if_pos hi0, w64 (x := (i : Int) - 1) (by omega) (by omega), if_pos (show 0 ≤ (i : Int) - 1 by omega), if_pos (show (i : Int) - 1 < (l.length : Int) by omega)]
            refine h3 _ hf ?_
            rw [prevS_pos l i (by omega) (by omega)]
            simp
          · simp only [if_neg hi0]
            refine h3 _ hf ?_
            have hz2 : i = 0 := by omega
            subst hz2
            simp [prevS]
    have h1 : ∀ z : Bool, (z = true ↔ a < 0 ∨ a > 3) → Ev (fun k => haulierref08_Check.j1 k l (i : Int) z a b c) (chkS (⟨a, b, c⟩ :: l.drop (i + 1)) i (prevS l i)) := by
      intro z hz
      refine ev_succ ?_
      simp only [haulierref08_Check.j1]
      by_cases hzt : z = true
      · have hf : fltS a b c = 2 := by unfold fltS; rw [if_pos (hz.1 hzt)]
        simp only [if_pos hzt, chkS, hf]
        exact Ev.now _
      · have ha : ¬ (a < 0 ∨ a > 3) := fun h => hzt (hz.2 h)
        simp only [if_neg hzt]
        by_cases c1 : b < 0
        · simp only [if_pos c1]
          exact h2 _ ha (by simp [c1])
        · by_cases c2 : b > 40320
          · simp only [if_neg c1, if_pos c2]
            exact h2 _ ha (by simp [c2])
          · by_cases c3 : c < 0
            · simp only [if_neg c1, if_neg c2, if_pos c3]
              exact h2 _ ha (by simp [c3])
            · simp only [if_neg c1, if_neg c2, if_neg c3]
              exact h2 _ ha (by simp; omega)
    refine ev_succ ?_
    simp only [haulierref08_Check.l0, hr, if_pos (show (i : Int) < (l.length : Int) by omega), if_pos (show (0 : Int) ≤ (i : Int) by omega)]
    by_cases ha : a < 0
    · simp only [if_pos ha]
      exact h1 _ (by simp [ha])
    · simp only [if_neg ha]
      exact h1 _ (by simp; omega)
theorem rcheck_f (l : List S48) (hl : l.length ≤ maxLen) : Ev (fun k => haulierref08_Check.f k l) (chkS l 0 none) := by
  unfold haulierref08_Check.f
  exact rcheck_l0 l hl l.length 0 (by omega)

def TL : Option Int → List S48 → Prop
  | _, [] => True
  | p, r :: l => fltS r.f0 r.f1 r.f2 = 0 ∧ (∀ e, p = some e → r.f1 = e) ∧ TL (some r.f2) l
theorem flt_pos (a b c : Int) : fltS a b c ≠ 0 ↔ (a < 0 ∨ a > 3 ∨ b < 0 ∨ c > 40320 ∨ c ≤ b) := by
  unfold fltS
  repeat' split
  all_goals simp
  all_goals omega
theorem flt_zero {a b c : Int} (h : fltS a b c = 0) : 0 ≤ a ∧ a ≤ 3 ∧ 0 ≤ b ∧ c ≤ 40320 ∧ b < c := by
  have := (flt_pos a b c)
  simp only [ne_eq, h, not_true, false_iff] at this
  omega
theorem chk_TL (l : List S48) : ∀ (i : Nat) (p : Option Int), (chkS l i p).2 = 0 ↔ TL p l := by
  induction l with
  | nil => intro i p; simp [chkS, TL]
  | cons r l ih =>
    intro i p
    simp only [chkS, TL]
    by_cases h0 : fltS r.f0 r.f1 r.f2 = 0
    · simp only [h0, ne_eq, not_true, if_false, true_and]
      by_cases h1 : ∃ e, p = some e ∧ r.f1 > e
      · rw [if_pos h1]
        obtain ⟨e, rfl, he⟩ := h1
        simp
        intro h2
        omega
      · rw [if_neg h1]
        by_cases h2 : ∃ e, p = some e ∧ r.f1 < e
        · rw [if_pos h2]
          obtain ⟨e, rfl, he⟩ := h2
          simp
          intro h2
          omega
        · rw [if_neg h2, ih]
          constructor
          · intro h
            refine ⟨fun e he => ?_, h⟩
            have a1 : ¬ r.f1 > e := fun h => h1 ⟨e, he, h⟩
            have a2 : ¬ r.f1 < e := fun h => h2 ⟨e, he, h⟩
            omega
          · exact fun h => h.2
    · simp only [h0, ne_eq, not_false_eq_true, if_true, false_and]
def stepR (out : List S48) (r : S48) : List S48 :=
  if 0 < out.length ∧ (rd_T48 out ((out.length : Int) - 1)).f0 = r.f0 then out.set (out.length - 1) ⟨(rd_T48 out ((out.length : Int) - 1)).f0, (rd_T48 out ((out.length : Int) - 1)).f1, r.f2⟩ else out ++ [r]
theorem rd_last (l : List S48) (x : S48) : rd_T48 (l ++ [x]) (((l ++ [x]).length : Int) - 1) = x := by
  unfold rd_T48
  rw [show (((l ++ [x]).length : Int) - 1).toNat = l.length by simp]
  simp
theorem stepR_nil (r : S48) : stepR [] r = [r] := by simp [stepR]
theorem stepR_snoc (l : List S48) (x r : S48) : stepR (l ++ [x]) r = if x.f0 = r.f0 then l ++ [⟨x.f0, x.f1, r.f2⟩] else l ++ [x, r] := by
  unfold stepR
  rw [rd_last]
  by_cases h : x.f0 = r.f0
  · rw [if_pos ⟨by simp, h⟩, if_pos h]
    simp
  · rw [if_neg (fun h2 => h h2.2), if_neg h]
    simp
theorem stepR_length (out : List S48) (r : S48) : (stepR out r).length ≤ out.length + 1 := by
  unfold stepR
  split
  · simp
  · simp
theorem stepR_two (out : List S48) (k b c b' c' : Int) : stepR (stepR out ⟨k, b, c⟩) ⟨k, b', c'⟩ = stepR out ⟨k, b, c'⟩ := by
  rcases List.eq_nil_or_concat out with rfl | ⟨l, x, rfl⟩
  · rw [stepR_nil, stepR_nil, show ([⟨k, b, c⟩] : List S48) = [] ++ [⟨k, b, c⟩] from rfl, stepR_snoc]
    simp
  · rw [List.concat_eq_append, stepR_snoc, stepR_snoc]
    simp only
    by_cases h : x.f0 = k
    · rw [if_pos h, if_pos h, stepR_snoc]
      simp [h]
    · rw [if_neg h, if_neg h, show l ++ [x, ⟨k, b, c⟩] = (l ++ [x]) ++ [⟨k, b, c⟩] by simp, stepR_snoc]
      simp
def ofFold : List S48 → Int → List Int → List S48
  | out, _, [] => out
  | out, m, k :: ks => ofFold (stepR out ⟨k, m, m + 1⟩) (m + 1) ks
theorem ofFold_app (ks ks' : List Int) : ∀ (out : List S48) (m : Int), ofFold out m (ks ++ ks') = ofFold (ofFold out m ks) (m + ks.length) ks' := by
  induction ks with
  | nil => intro out m; simp [ofFold]
  | cons k ks ih =>
    intro out m
    simp only [List.cons_append, ofFold, ih, List.length_cons]
    congr 1
    omega
theorem ofFold_run (k : Int) (n : Nat) : ∀ (out : List S48) (m : Int), ofFold out m (List.replicate (n + 1) k) = stepR out ⟨k, m, m + n + 1⟩ := by
  induction n with
  | zero => intro out m; simp [ofFold]
  | succ n ih =>
    intro out m
    rw [List.replicate_succ, ofFold, ih, stepR_two]
    congr 2
    omega
def kindsS (l : List S48) : List Int := l.flatMap fun r => List.replicate (r.f2 - r.f1).toNat r.f0
def endS : Int → List S48 → Int
  | e, [] => e
  | _, r :: l => endS r.f2 l
theorem TL_kinds (l : List S48) : ∀ e, TL (some e) l → e + (kindsS l).length = endS e l ∧ (e ≤ 40320 → endS e l ≤ 40320) := by
  induction l with
  | nil => intro e _; simp [kindsS, endS]
  | cons r l ih =>
    intro e h
    obtain ⟨h0, h1, h2⟩ := h
    have h3 := flt_zero h0
    have h4 := h1 e rfl
    obtain ⟨h5, h6⟩ := ih _ h2
    simp only [kindsS, List.flatMap_cons, List.length_append, List.length_replicate, endS] at h5 ⊢
    constructor
    · omega
    · intro _; exact h6 (by omega)
theorem TL_of (l : List S48) : ∀ (out : List S48) (e : Int), TL (some e) l → ofFold out e (kindsS l) = l.foldl stepR out := by
  induction l with
  | nil => intro out e _; rfl
  | cons r l ih =>
    intro out e h
    obtain ⟨h0, h1, h2⟩ := h
    have h3 := flt_zero h0
    have h4 := h1 e rfl
    subst h4
    obtain ⟨n, hn⟩ : ∃ n, (r.f2 - r.f1).toNat = n + 1 := ⟨(r.f2 - r.f1).toNat - 1, by omega⟩
    have he : r.f1 + (n : Int) + 1 = r.f2 := by omega
    simp only [kindsS, List.flatMap_cons, List.foldl_cons]
    rw [hn, ofFold_app, ofFold_run, he, List.length_replicate, show r.f1 + ((n + 1 : Nat) : Int) = r.f2 by omega]
    exact ih _ _ h2
def begS (l : List S48) : Int := match l with | [] => 0 | r :: _ => r.f1
theorem TL_some (l : List S48) (h : TL none l) : TL (some (begS l)) l := by
  cases l with
  | nil => trivial
  | cons r l => exact ⟨h.1, fun e he => by injection he, h.2.2⟩
theorem TL_len (l : List S48) (h : TL none l) : (kindsS l).length ≤ 40320 ∧ 0 ≤ begS l ∧ begS l ≤ 40320 := by
  have h1 := TL_kinds l _ (TL_some l h)
  have h2 : 0 ≤ begS l ∧ begS l ≤ 40320 := by
    cases l with
    | nil => simp [begS]
    | cons r l =>
      have := flt_zero h.1
      simp only [begS]
      omega
  have := h1.2 h2.2
  omega
def mergeS (l : List S48) : List S48 := l.foldl stepR []
def normS (l : List S48) : List S48 × Int := if (chkS l 0 none).2 = 0 then (mergeS l, 0) else ([], (chkS l 0 none).2)
theorem norm_of (l : List S48) (h : TL none l) : ofFold [] (begS l) (kindsS l) = mergeS l := TL_of l [] _ (TL_some l h)

theorem merged_l0 (l : List S48) (hl : l.length ≤ 1000000) (d : Nat) : ∀ (i : Nat) (out : List S48), i + d = l.length → out.length ≤ i → Ev (fun k => record_merged.l0 k out l (l.length : Int) (i : Int)) ((l.drop i).foldl stepR out) := by
  induction d with
  | zero =>
    intro i out hi ho
    rw [List.drop_of_length_le (by omega)]
    refine ev_succ ?_
    simp only [record_merged.l0, if_neg (show ¬ (i : Int) < (l.length : Int) by omega)]
    exact Ev.now _
  | succ d ih =>
    intro i out hi ho
    rw [rdT_drop l i (by omega)]
    have h := ih (i + 1) (stepR out (rd_T48 l (i : Int))) (by omega) (by have := stepR_length out (rd_T48 l (i : Int)); omega)
    rw [show (((i + 1 : Nat) : Int)) = (i : Int) + 1 by omega] at h
    refine ev_succ ?_
    simp only [record_merged.l0, if_pos (show (i : Int) < (l.length : Int) by omega), if_pos (show (0 : Int) ≤ (i : Int) by omega), w64 (x := (i : Int) + 1) (by omega) (by omega), w64 (x := (out.length : Int) - 1) (by omega) (by omega), List.foldl_cons, if_pos (show out.length < 5864062014805 by omega)]
    by_cases h0 : 0 < out.length
    · simp only [if_pos (show (out.length : Int) - 1 ≥ 0 by omega), if_pos (show 0 ≤ (out.length : Int) - 1 by omega), if_pos (show (out.length : Int) - 1 < (out.length : Int) by omega), show ((out.length : Int) - 1).toNat = out.length - 1 by omega]
      by_cases h1 : (rd_T48 out ((out.length : Int) - 1)).f0 = (rd_T48 l (i : Int)).f0
      · simp only [if_pos h1]
        have hs : stepR out (rd_T48 l (i : Int)) = out.set (out.length - 1) ⟨(rd_T48 out ((out.length : Int) - 1)).f0, (rd_T48 out ((out.length : Int) - 1)).f1, (rd_T48 l (i : Int)).f2⟩ := by unfold stepR; rw [if_pos ⟨h0, h1⟩]
        rw [hs] at h ⊢
        exact h
      · simp only [if_neg h1]
        have hs : stepR out (rd_T48 l (i : Int)) = out ++ [rd_T48 l (i : Int)] := by unfold stepR; rw [if_neg (fun h => h1 h.2)]
        rw [hs] at h ⊢
        exact h
    · simp only [if_neg (show ¬ (out.length : Int) - 1 ≥ 0 by omega)]
      have hs : stepR out (rd_T48 l (i : Int)) = out ++ [rd_T48 l (i : Int)] := by unfold stepR; rw [if_neg (fun h => h0 h.1)]
      rw [hs] at h ⊢
      exact h
theorem merged_f (l : List S48) (hl : l.length ≤ 1000000) : Ev (fun k => record_merged.f k l) (mergeS l) := by
  unfold record_merged.f
  exact merged_l0 l hl l.length 0 [] (by omega) (by simp)
theorem normal_f (l : List S48) (hl : l.length ≤ 1000000) : Ev (fun k => record_Normal.f k l) (normS l) := by
  unfold record_Normal.f normS
  refine Ev.bind (check_f l (by unfold maxLen; omega)) ?_
  by_cases h : (chkS l 0 none).2 = 0
  · simp only [if_pos h]
    exact Ev.bind (merged_f l hl) (Ev.now _)
  · simp only [if_neg h]
    exact Ev.now _

theorem kinds_l1 (l : List S48) (hl : l.length ≤ 1000000) (i : Nat) (hi : i < l.length) (r : List Int) (n : Nat) : ∀ (out : List Int) (m : Int), -9223372036854775808 ≤ m → m + n ≤ 9223372036854775807 → (m + n = (rd_T48 l (i : Int)).f2 ∨ (n = 0 ∧ (rd_T48 l (i : Int)).f2 ≤ m)) → out.length + n ≤ 17592186044415 →
    Ev (fun k => haulierref08_Kinds.l0 k l (out ++ List.replicate n (rd_T48 l (i : Int)).f0) ((i : Int) + 1)) r → Ev (fun k => haulierref08_Kinds.l1 k l out (i : Int) m) r := by
  induction n with
  | zero =>
    intro out m h0 h1 h2 h3 h
    refine ev_succ ?_
    simp only [haulierref08_Kinds.l1, if_pos (show (0 : Int) ≤ (i : Int) by omega), if_pos (show (i : Int) < (l.length : Int) by omega), if_neg (show ¬ m < (rd_T48 l (i : Int)).f2 by omega), w64 (x := (i : Int) + 1) (by omega) (by omega)]
    simpa using h
  | succ n ih =>
    intro out m h0 h1 h2 h3 h
    refine ev_succ ?_
    simp only [haulierref08_Kinds.l1, if_pos (show (0 : Int) ≤ (i : Int) by omega), if_pos (show (i : Int) < (l.length : Int) by omega), if_pos (show m < (rd_T48 l (i : Int)).f2 by omega), w64 (x := m + 1) (by omega) (by omega), if_pos (show out.length < 17592186044416 by omega)]
    refine ih _ _ (by omega) (by omega) (by omega) (by simp; omega) ?_
    rw [List.append_assoc]
    exact h
theorem kinds_l0 (l : List S48) (hl : l.length ≤ 1000000) (d : Nat) : ∀ (i : Nat) (out : List Int) (e : Int), i + d = l.length → TL (some e) (l.drop i) → out.length + (kindsS (l.drop i)).length ≤ 17592186044415 →
    Ev (fun k => haulierref08_Kinds.l0 k l out (i : Int)) (out ++ kindsS (l.drop i)) := by
  induction d with
  | zero =>
    intro i out e hi _ _
    rw [List.drop_of_length_le (by omega)]
    refine ev_succ ?_
    simp only [haulierref08_Kinds.l0, if_neg (show ¬ (i : Int) < (l.length : Int) by omega), kindsS, List.flatMap_nil, List.append_nil]
    exact Ev.now _
  | succ d ih =>
    intro i out e hi ht hb
    rw [rdT_drop l i (by omega)] at ht hb ⊢
    obtain ⟨t0, t1, t2⟩ := ht
    have h3 := flt_zero t0
    simp only [kindsS, List.flatMap_cons, List.length_append, List.length_replicate] at hb
    have h := ih (i + 1) (out ++ List.replicate ((rd_T48 l (i : Int)).f2 - (rd_T48 l (i : Int)).f1).toNat (rd_T48 l (i : Int)).f0) _ (by omega) t2 (by simp only [kindsS, List.length_append, List.length_replicate]; omega)
    rw [show (((i + 1 : Nat) : Int)) = (i : Int) + 1 by omega] at h
    refine ev_succ ?_
    simp only [haulierref08_Kinds.l0, if_pos (show (i : Int) < (l.length : Int) by omega), if_pos (show (0 : Int) ≤ (i : Int) by omega)]
    refine kinds_l1 l hl i (by omega) _ ((rd_T48 l (i : Int)).f2 - (rd_T48 l (i : Int)).f1).toNat out _ (by omega) (by omega) (by omega) (by omega) ?_
    simp only [kindsS, List.flatMap_cons]
    rw [← List.append_assoc]
    exact h
theorem kinds_f (l : List S48) (hl : l.length ≤ 1000000) (h : TL none l) : Ev (fun k => haulierref08_Kinds.f k l) (kindsS l) := by
  unfold haulierref08_Kinds.f
  have h1 := TL_len l h
  have := kinds_l0 l hl l.length 0 [] (begS l) (by omega) (TL_some l h) (by simp; omega)
  simpa using this
theorem begin_f (l : List S48) : haulierref08_Begin.f l = some (begS l) := by
  unfold haulierref08_Begin.f begS
  cases l with
  | nil => rfl
  | cons r l =>
    rw [if_neg (by simp only [List.length_cons]; omega), if_pos (by simp only [List.length_cons]; omega)]
    rfl

theorem end_rd (l : List S48) : ∀ (e : Int), l ≠ [] → (rd_T48 l ((l.length : Int) - 1)).f2 = endS e l := by
  induction l with
  | nil => intro e h; exact absurd rfl h
  | cons r l ih =>
    intro e _
    cases l with
    | nil => rfl
    | cons s l =>
      have h := ih r.f2 (by simp)
      simp only [endS] at h ⊢
      rw [← h]
      unfold rd_T48
      rw [show (((r :: s :: l).length : Int) - 1).toNat = ((((s :: l).length : Int) - 1).toNat) + 1 by simp only [List.length_cons]; omega]
      simp
def endT (l : List S48) : Int := if l.length = 0 then 0 else endS (begS l) l
theorem end_f (l : List S48) (hl : l.length ≤ 1000000) : haulierref08_End.f l = some (endT l) := by
  unfold haulierref08_End.f endT
  by_cases h : l.length = 0
  · rw [if_pos (by omega), if_pos h]
  · rw [if_neg (by omega), if_neg h, w64 (by omega) (by omega), if_pos (by omega), if_pos (by omega), end_rd l (begS l) (by intro e; rw [e] at h; simp at h)]
theorem endT_eq (l : List S48) (h : TL none l) (h0 : l.length ≠ 0) : endT l = begS l + (kindsS l).length := by
  unfold endT
  rw [if_neg h0, (TL_kinds l _ (TL_some l h)).1]

/-! the timeline of kinds may be, and has just these kinds -/
theorem flt_ok {a b c : Int} (h1 : 0 ≤ a) (h2 : a ≤ 3) (h3 : 0 ≤ b) (h4 : b < c) (h5 : c ≤ 40320) : fltS a b c = 0 := by
  unfold fltS
  rw [if_neg (by omega), if_neg (by omega), if_neg (by omega)]
def lastE : Option Int → List S48 → Option Int
  | p, [] => p
  | _, r :: l => lastE (some r.f2) l
theorem TL_app (a b : List S48) : ∀ p, TL p (a ++ b) ↔ TL p a ∧ TL (lastE p a) b := by
  induction a with
  | nil => intro p; simp [TL, lastE]
  | cons r a ih =>
    intro p
    simp only [List.cons_append, TL, lastE, ih, and_assoc]
theorem lastE_app (a : List S48) (e : S48) : ∀ p, lastE p (a ++ [e]) = some e.f2 := by
  induction a with
  | nil => intro p; rfl
  | cons r a ih => intro p; exact ih _
theorem kindsS_app (a b : List S48) : kindsS (a ++ b) = kindsS a ++ kindsS b := by simp [kindsS]
theorem kindsS_one (r : S48) : kindsS [r] = List.replicate (r.f2 - r.f1).toNat r.f0 := by simp [kindsS]
theorem begS_app (a b : List S48) (h : a ≠ []) : begS (a ++ b) = begS a := by
  cases a with
  | nil => exact absurd rfl h
  | cons r a => rfl
theorem fold_ok (ks : List Int) : ∀ (acc : List S48) (m : Int), (∀ k ∈ ks, 0 ≤ k ∧ k ≤ 3) → 0 ≤ m → m + ks.length ≤ 40320 → TL none acc → (acc = [] ∨ ∃ a0 e, acc = a0 ++ [e] ∧ e.f2 = m) →
    TL none (ofFold acc m ks) ∧ kindsS (ofFold acc m ks) = kindsS acc ++ ks ∧ (acc ≠ [] → begS (ofFold acc m ks) = begS acc) ∧ (acc = [] → ks ≠ [] → begS (ofFold acc m ks) = m) := by
  induction ks with
  | nil =>
    intro acc m _ _ _ hT _
    exact ⟨hT, by simp [ofFold], fun _ => rfl, fun _ h => absurd rfl h⟩
  | cons k ks ih =>
    intro acc m hk hm hl hT ha
    have hk0 := hk k List.mem_cons_self
    simp only [List.length_cons] at hl
    have key : TL none (stepR acc ⟨k, m, m + 1⟩) ∧ (∃ a0 e, stepR acc ⟨k, m, m + 1⟩ = a0 ++ [e] ∧ e.f2 = m + 1) ∧ kindsS (stepR acc ⟨k, m, m + 1⟩) = kindsS acc ++ [k] ∧ (acc ≠ [] → begS (stepR acc ⟨k, m, m + 1⟩) = begS acc) ∧ (acc = [] → begS (stepR acc ⟨k, m, m + 1⟩) = m) := by
      have hf := flt_ok hk0.1 hk0.2 hm (by omega : m < m + 1) (by omega)
      have hone : kindsS [(⟨k, m, m + 1⟩ : S48)] = [k] := by
        rw [kindsS_one]
        simp only []
        rw [show (m + 1 - m).toNat = 1 by omega]
        rfl
      rcases ha with rfl | ⟨a0, e, rfl, he⟩
      · rw [stepR_nil]
        exact ⟨⟨hf, (fun e h => by cases h), trivial⟩, ⟨[], _, rfl, rfl⟩, by rw [hone]; rfl, fun h => absurd rfl h, fun _ => rfl⟩
      · rw [TL_app] at hT
        have hfe := flt_zero hT.2.1
        rw [stepR_snoc]
        by_cases c : e.f0 = k
        · rw [if_pos (by exact c)]
          refine ⟨(TL_app _ _ _).2 ⟨hT.1, flt_ok hfe.1 hfe.2.1 hfe.2.2.1 (by simp only []; omega) (by simp only []; omega), hT.2.2.1, trivial⟩, ⟨a0, _, rfl, rfl⟩, ?_, ?_, fun h => by simp at h⟩
          · rw [kindsS_app, kindsS_app, kindsS_one, kindsS_one, List.append_assoc]
            congr 1
            simp only []
            rw [show (m + 1 - e.f1).toNat = (e.f2 - e.f1).toNat + 1 by omega, List.replicate_succ', c]
          · intro _
            cases a0 with
            | nil => rfl
            | cons r t => rfl
        · rw [if_neg (by exact c), show a0 ++ [e, (⟨k, m, m + 1⟩ : S48)] = (a0 ++ [e]) ++ [⟨k, m, m + 1⟩] by simp]
          refine ⟨(TL_app _ _ _).2 ⟨(TL_app _ _ _).2 hT, hf, fun q hq => ?_, trivial⟩, ⟨_, _, rfl, rfl⟩, by rw [kindsS_app (a0 ++ [e]), hone], fun h => begS_app _ _ h, fun h => by simp at h⟩
          rw [lastE_app] at hq
          injection hq with hq
          rw [← hq, he]
    obtain ⟨g1, g2, g3, g4, g5⟩ := key
    rw [ofFold]
    obtain ⟨i1, i2, i3, i4⟩ := ih (stepR acc ⟨k, m, m + 1⟩) (m + 1) (fun x hx => hk x (List.mem_cons_of_mem _ hx)) (by omega) (by omega) g1 (.inr g2)
    have hne : stepR acc ⟨k, m, m + 1⟩ ≠ [] := by
      obtain ⟨a0, e, h, _⟩ := g2
      rw [h]
      simp
    exact ⟨i1, by rw [i2, g3, List.append_assoc]; rfl, fun h => by rw [i3 hne, g4 h], fun h _ => by rw [i3 hne, g5 h]⟩

theorem and2047 (x : Int) : Go.bits .and .i64 x 2047 = x % 2048 := by
  unfold Go.bits
  simp only [BitVec.toNat_and, BitVec.toNat_ofInt]
  have h1 : ((2047 : Int) % ((2 ^ IntKind.i64.bits : Nat) : Int)).toNat = 2 ^ 11 - 1 := by decide
  have h2 : ((2 ^ IntKind.i64.bits : Nat) : Int) = 18446744073709551616 := by decide
  rw [h1, Nat.and_two_pow_sub_one_eq_mod, IntKind.wrap_i64, h2]
  omega
theorem or11 {b a : Int} (hb0 : 0 ≤ b) (hb1 : b < 4) (ha0 : 0 ≤ a) (ha1 : a < 2048) : Go.bits .or .i64 (b * 2048) a = b * 2048 + a :=
  bits_join .i64 16 (by decide) (fun n h0 h1 => by rw [IntKind.wrap_i64]; omega) 11 (b * 2048) a (by omega) (by omega) (by omega) ha0 (by omega) (by omega)
def chg (kind minute : Int) : Int × Int := if kind < 0 ∨ kind > 3 then (0, 2) else if minute < 0 ∨ minute > 1439 then (0, 4) else (kind * 2048 + minute, 0)
theorem change_j0 (kind minute : Int) (b : Bool) (hb : b = true ↔ kind < 0 ∨ kind > 3) : Ev (fun k => disc_Change.j0 k kind minute b) (chg kind minute) := by
  refine ev_succ ?_
  simp only [disc_Change.j0, chg]
  by_cases h : b = true
  · simp only [if_pos h, if_pos (hb.1 h)]
    exact Ev.now _
  · have h2 : ¬ (kind < 0 ∨ kind > 3) := fun h3 => h (hb.2 h3)
    simp only [if_neg h, if_neg h2]
    by_cases h3 : minute < 0
    · simp only [if_pos h3, if_pos (show minute < 0 ∨ minute > 1439 from .inl h3)]
      exact Ev.now _
    · by_cases h4 : minute ≥ 1440
      · simp only [if_neg h3, if_pos h4, if_pos (show minute < 0 ∨ minute > 1439 by omega)]
        exact Ev.now _
      · simp only [if_neg h3, if_neg h4, if_neg (show ¬ (minute < 0 ∨ minute > 1439) by omega), w64 (x := kind * 2048) (by omega) (by omega), or11 (b := kind) (a := minute) (by omega) (by omega) (by omega) (by omega)]
        exact Ev.now _
theorem change_f (kind minute : Int) : Ev (fun k => disc_Change.f k kind minute) (chg kind minute) := by
  unfold disc_Change.f
  by_cases h : kind < 0
  · simp only [if_pos h]
    exact change_j0 _ _ _ (by simp [h])
  · simp only [if_neg h]
    exact change_j0 _ _ _ (by simp; omega)
theorem dalive_f : Ev (fun k => haulierlaw11_alive.f k) true := by
  unfold haulierlaw11_alive.f
  refine Ev.bind (change_f 3 5) ?_
  exact Ev.now _

theorem mergeS_len (l : List S48) : (mergeS l).length ≤ l.length := by
  have : ∀ (l out : List S48), (l.foldl stepR out).length ≤ out.length + l.length := by
    intro l
    induction l with
    | nil => intro out; simp
    | cons r l ih =>
      intro out
      have h1 := ih (stepR out r)
      have h2 := stepR_length out r
      simp only [List.foldl_cons, List.length_cons]
      omega
  have := this l []
  simpa [mergeS] using this
/-! Encode: the reference goes minute by minute, the program from change to change. -/
abbrev It := Dc3.It
def tup (x : S48) : It := (x.f0, x.f1, x.f2)
def cat (xs : List Int) : ByteArray := Dc2.catB ⟨#[]⟩ xs
theorem putB_by2 (n : Int) : Dc1.putB n = by2 n := rfl
theorem catB_bl (xs : List Int) : ∀ o, bl (Dc2.catB o xs) = bl o ++ bl (cat xs) := by
  induction xs with
  | nil => intro o; simp [cat, Dc2.catB, bl]
  | cons x t ih =>
    intro o
    have h1 := ih (o ++ Dc1.putB x)
    have h2 := ih ((⟨#[]⟩ : ByteArray) ++ Dc1.putB x)
    show bl (Dc2.catB (o ++ Dc1.putB x) t) = bl o ++ bl (Dc2.catB ((⟨#[]⟩ : ByteArray) ++ Dc1.putB x) t)
    rw [h1, h2, bl_append, bl_append]
    simp [bl]
theorem dayB_eq (o : ByteArray) (xs : List Int) : Dc2.dayB o xs = (o ++ by2 (xs.length : Int)) ++ cat xs := by
  refine bl_inj ?_
  unfold Dc2.dayB
  rw [catB_bl, bl_append (o ++ _)]
  rfl
theorem cat_nil : cat [] = ⟨#[]⟩ := rfl
theorem cat_snoc (xs : List Int) (c : Int) : cat (xs ++ [c]) = cat xs ++ by2 c := by
  unfold cat Dc2.catB
  rw [List.foldl_append]
  rfl
theorem cat_one (c : Int) : cat [c] = (⟨#[]⟩ : ByteArray) ++ by2 c := rfl
theorem cat_size (xs : List Int) : (cat xs).size = 2 * xs.length := by
  unfold cat
  rw [Dc2.catB_size]
  show 0 + _ = _
  omega
def rl : Int → Option Int → Dc3.St → List Int → Dc3.St
  | _, _, st, [] => st
  | m, p, st, k :: ks => rl (m + 1) (some k) (if p = none ∨ m % 1440 = 0 ∨ p ≠ some k then Dc3.ev m p.isSome k st else st) ks
def fin2 (st : Dc3.St) : ByteArray × Int := (Dc2.dayB st.1 st.2 ++ by2 (sm (Dc2.dayB st.1 st.2)), 0)
def pk (ks : List Int) (i : Nat) : Option Int := if i = 0 then none else some (rd ks ((i : Int) - 1))
theorem num_chg {k m : Int} (hk0 : 0 ≤ k) (hk1 : k ≤ 3) (hm : 0 ≤ m) : wrap64 (wrap64 (2048 * k) + Int.tmod m 1440) = Dc3.chg k m := by
  rw [tmod_nn hm]
  unfold Dc3.chg wrap64
  omega
theorem chg_rng {k m : Int} (hk0 : 0 ≤ k) (hk1 : k ≤ 3) : 0 ≤ Dc3.chg k m ∧ Dc3.chg k m ≤ 65535 := by
  unfold Dc3.chg
  omega
theorem renc_l0 (at_ : Int) (ks : List Int) (h0 : 0 ≤ at_) (h1 : at_ + ks.length ≤ 40320) (hk : ∀ x ∈ ks, 0 ≤ x ∧ x ≤ 3) (d : Nat) : ∀ (i : Nat) (st : Dc3.St), i + d = ks.length → Dc3.phi st ≤ 1000 + 4 * i →
    Ev (fun k => haulierref11_Encode.l0 k at_ ks st.1 (cat st.2) (st.2.length : Int) (i : Int)) (fin2 (rl (at_ + i) (pk ks i) st (ks.drop i))) := by
  induction d with
  | zero =>
    intro i st hi hp
    refine ev_succ ?_
    unfold Dc3.phi at hp
    simp only [haulierref11_Encode.l0, if_neg (show ¬ (i : Int) < (ks.length : Int) by omega), rput_f (st.2.length : Int) (by omega) (by omega), Option.bind_some, ByteArray.size_append, by2_size, cat_size]
    rw [List.drop_of_length_le (by omega)]
    simp only [if_pos (show st.1.size + 2 ≤ 9223372036854775807 by omega), if_pos (show st.1.size + 2 + 2 * st.2.length ≤ 9223372036854775807 by omega)]
    have hs := dayB_eq st.1 st.2
    rw [← hs]
    refine Ev.bind (rseal_f _ (by rw [Dc2.dayB_size]; omega)) ?_
    exact Ev.now _
  | succ d ih =>
    intro i st hi hp
    have hil : i < ks.length := by omega
    have hd := rd_drop ks i hil
    have hkr := hk _ (rd_mem ks i hil)
    have hm : wrap64 (at_ + (i : Int)) = at_ + i := w64 (by omega) (by omega)
    have hi1 : wrap64 ((i : Int) + 1) = ((i + 1 : Nat) : Int) := by rw [w64 (by omega) (by omega)]; omega
    have hpk : pk ks (i + 1) = some (rd ks (i : Int)) := by
      unfold pk
      rw [if_neg (by omega)]
      congr 2
      omega
    have hat : at_ + (i : Int) + 1 = at_ + ((i + 1 : Nat) : Int) := by omega
    have hc := num_chg (k := rd ks (i : Int)) (m := at_ + i) hkr.1 hkr.2 (by omega)
    have hcr := chg_rng (k := rd ks (i : Int)) (m := at_ + i) hkr.1 hkr.2
    have hph := Dc3.ev_phi (at_ + i) (pk ks i).isSome (rd ks (i : Int)) st
    have hn1 : wrap64 ((st.2.length : Int) + 1) = ((st.2 ++ [Dc3.chg (rd ks (i : Int)) (at_ + i)]).length : Int) := by
      unfold Dc3.phi at hp
      rw [w64 (by omega) (by omega)]
      simp
    have hp2 := hp
    unfold Dc3.phi at hp2
    rw [hd, rl, hat]
    have hrec : ∀ st2 : Dc3.St, st2 = (st.1, st.2 ++ [Dc3.chg (rd ks (i : Int)) (at_ + i)]) → Dc3.phi st2 ≤ 1000 + 4 * (i + 1 : Nat) → Ev (fun k => haulierref11_Encode.l0 k at_ ks st.1 (cat st.2 ++ by2 (Dc3.chg (rd ks (i : Int)) (at_ + i))) (wrap64 ((st.2.length : Int) + 1)) (wrap64 ((i : Int) + 1))) (fin2 (rl (at_ + ((i + 1 : Nat) : Int)) (some (rd ks (i : Int))) st2 (ks.drop (i + 1)))) := by
      intro st2 he hph2
      have := ih (i + 1) st2 (by omega) hph2
      rw [hpk] at this
      rw [he] at this ⊢
      rw [hi1, hn1, ← cat_snoc]
      exact this
    refine ev_succ ?_
    simp only [haulierref11_Encode.l0, if_pos (show (i : Int) < (ks.length : Int) by omega), hm]
    by_cases hi0 : i = 0
    · have hpn : pk ks i = none := by unfold pk; rw [if_pos hi0]
      rw [if_pos (.inl hpn)]
      rw [hpn] at hph ⊢
      have hev : Dc3.ev (at_ + i) (none : Option Int).isSome (rd ks (i : Int)) st = (st.1, st.2 ++ [Dc3.chg (rd ks (i : Int)) (at_ + i)]) := Dc3.ev_n (fun h => by simp at h)
      simp only [if_pos (show (i : Int) = 0 by omega)]
      refine ev_succ ?_
      simp only [haulierref11_Encode.j1, if_true, show decide ((i : Int) > 0) = false from decide_eq_false (by omega)]
      refine ev_succ ?_
      simp only [haulierref11_Encode.j2, Bool.false_eq_true, if_false, if_true, if_pos (show (0 : Int) ≤ (i : Int) by omega), if_pos (show (i : Int) < (ks.length : Int) by omega), hc, rput_f _ hcr.1 (by omega), Option.bind_some, cat_size, by2_size, if_pos (show 2 * st.2.length + 2 ≤ 9223372036854775807 by omega)]
      exact hrec _ hev (by omega)
    · have hps : pk ks i = some (rd ks ((i : Int) - 1)) := by unfold pk; rw [if_neg hi0]
      have hisS : (pk ks i).isSome = true := by rw [hps]; rfl
      have hw1 : wrap64 ((i : Int) - 1) = (i : Int) - 1 := w64 (by omega) (by omega)
      simp only [if_neg (show ¬ (i : Int) = 0 by omega), tmod_nn (show 0 ≤ at_ + (i : Int) by omega)]
      by_cases hmz : (at_ + (i : Int)) % 1440 = 0
      · rw [if_pos (.inr (.inl hmz)), hisS]
        rw [hisS] at hph
        have hev : Dc3.ev (at_ + i) true (rd ks (i : Int)) st = (Dc2.dayB st.1 st.2, [Dc3.chg (rd ks (i : Int)) (at_ + i)]) := Dc3.ev_y hmz rfl
        rw [show ((at_ + (i : Int)) % 1440 == 0) = true by rw [hmz]; rfl]
        refine ev_succ ?_
        simp only [haulierref11_Encode.j1, if_true, show decide ((i : Int) > 0) = true from decide_eq_true (by omega)]
        refine ev_succ ?_
        simp only [haulierref11_Encode.j2, if_true, rput_f (st.2.length : Int) (by omega) (by omega), Option.bind_some, ByteArray.size_append, cat_size, by2_size, if_pos (show st.1.size + 2 ≤ 9223372036854775807 by omega), if_pos (show st.1.size + 2 + 2 * st.2.length ≤ 9223372036854775807 by omega), if_pos (show (0 : Int) ≤ (i : Int) by omega), if_pos (show (i : Int) < (ks.length : Int) by omega)]
        rw [tmod_nn (show 0 ≤ at_ + (i : Int) by omega)] at hc
        simp only [tmod_nn (show 0 ≤ at_ + (i : Int) by omega), hc, rput_f _ hcr.1 (by omega), Option.bind_some, by2_size, if_pos (show 0 + 2 ≤ 9223372036854775807 by omega)]
        have := ih (i + 1) (Dc3.ev (at_ + i) true (rd ks (i : Int)) st) (by omega) (by omega)
        rw [hi1]
        rw [hpk] at this
        rw [hev] at this ⊢
        rw [dayB_eq, cat_one] at this
        rw [dayB_eq]
        exact this
      · rw [show ((at_ + (i : Int)) % 1440 == 0) = false from beq_eq_false_iff_ne.mpr hmz]
        refine ev_succ ?_
        simp only [haulierref11_Encode.j1, Bool.false_eq_true, if_false]
        refine ev_succ ?_
        simp only [haulierref11_Encode.j2, Bool.false_eq_true, if_false, if_pos (show (0 : Int) ≤ (i : Int) by omega), if_pos (show (i : Int) < (ks.length : Int) by omega), hw1, if_pos (show (0 : Int) ≤ (i : Int) - 1 by omega), if_pos (show (i : Int) - 1 < (ks.length : Int) by omega)]
        by_cases he : rd ks (i : Int) = rd ks ((i : Int) - 1)
        · rw [if_neg (by rw [hps, he]; intro h; rcases h with h | h | h; · cases h
                         · exact hmz h
                         · exact h rfl)]
          simp only [if_pos he]
          rw [hi1]
          have := ih (i + 1) st (by omega) (by omega)
          rw [hpk] at this
          exact this
        · rw [if_pos (.inr (.inr (by rw [hps]; intro h; injection h with h; exact he h.symm))), hisS]
          rw [hisS] at hph
          have hev : Dc3.ev (at_ + i) true (rd ks (i : Int)) st = (st.1, st.2 ++ [Dc3.chg (rd ks (i : Int)) (at_ + i)]) := Dc3.ev_n (fun h => hmz h.1)
          simp only [if_neg he, hc, rput_f _ hcr.1 (by omega), Option.bind_some, cat_size, by2_size, if_pos (show 2 * st.2.length + 2 ≤ 9223372036854775807 by omega)]
          exact hrec _ hev (by omega)
/-! the minutes of a record -/
theorem inn_end {D : Nat} {k f t : Int} {b : Bool} {m : Int} {st : Dc3.St} (h : ¬ m < t) : Dc3.inn D k f t b m st = st := by
  cases D with
  | zero => rfl
  | succ D => rw [Dc3.inn, if_neg h]
theorem rl_in (k f t : Int) (b : Bool) (rest : List Int) (d : Nat) : ∀ (D : Nat) (m : Int) (st : Dc3.St), m + d = t → 0 ≤ f → f < m → t ≤ ((m + 1439) / 1440 + D) * 1440 →
    rl m (some k) st (List.replicate d k ++ rest) = rl t (some k) (Dc3.inn D k f t b ((m + 1439) / 1440 * 1440) st) rest := by
  induction d with
  | zero =>
    intro D m st hm hf hfm hD
    rw [inn_end (by omega)]
    rw [List.replicate_zero, List.nil_append, show m = t by omega]
  | succ d ih =>
    intro D m st hm hf hfm hD
    rw [List.replicate_succ, List.cons_append, rl]
    by_cases hz : m % 1440 = 0
    · rw [if_pos (.inr (.inl hz))]
      obtain ⟨D, rfl⟩ : ∃ q, D = q + 1 := ⟨D - 1, by omega⟩
      rw [show (m + 1439) / 1440 * 1440 = m by omega, Dc3.inn, if_pos (by omega)]
      rw [ih D (m + 1) _ (by omega) hf (by omega) (by omega), show (m + 1 + 1439) / 1440 * 1440 = (m / 1440 + 1) * 1440 by omega]
      rw [show (b || decide (m > f)) = (some k).isSome by rw [show decide (m > f) = true from decide_eq_true (by omega)]; simp]
    · rw [if_neg (by intro h; rcases h with h | h | h; · cases h
                     · exact hz h
                     · exact h rfl)]
      rw [ih D (m + 1) _ (by omega) hf (by omega) (by omega), show (m + 1 + 1439) / 1440 * 1440 = (m + 1439) / 1440 * 1440 by omega]
def Dif : Option Int → List Int → Prop
  | _, [] => True
  | p, k :: t => p ≠ some k ∧ Dif (some k) t
theorem rl_dys (L : List S48) : ∀ (e : Int) (p : Option Int) (st : Dc3.St), TL (some e) L → Dif p (L.map (·.f0)) → rl e p st (kindsS L) = Dc3.dys (L.map tup) p.isSome st := by
  induction L with
  | nil => intro e p st _ _; rfl
  | cons r L ih =>
    intro e p st hT hD
    obtain ⟨hf, he, hT2⟩ := hT
    have hz := flt_zero hf
    obtain rfl := he e rfl
    obtain ⟨n, hn⟩ : ∃ n, (r.f2 - r.f1).toNat = n + 1 := ⟨(r.f2 - r.f1).toNat - 1, by omega⟩
    have hks : kindsS (r :: L) = r.f0 :: (List.replicate n r.f0 ++ kindsS L) := by
      unfold kindsS
      rw [List.flatMap_cons, hn, List.replicate_succ]
      rfl
    rw [hks, rl]
    have hev : (p = none ∨ r.f1 % 1440 = 0 ∨ p ≠ some r.f0) := .inr (.inr hD.1)
    rw [if_pos hev, rl_in r.f0 r.f1 r.f2 p.isSome (kindsS L) n 27 (r.f1 + 1) _ (by omega) (by omega) (by omega) (by omega)]
    rw [ih r.f2 (some r.f0) _ hT2 hD.2]
    show Dc3.dys (L.map tup) true _ = Dc3.dys (tup r :: L.map tup) p.isSome st
    rw [Dc3.dys]
    congr 1
    have hI : Dc3.inn 28 r.f0 r.f1 r.f2 p.isSome r.f1 st = Dc3.inn 27 r.f0 r.f1 r.f2 p.isSome ((r.f1 / 1440 + 1) * 1440) (Dc3.ev r.f1 (p.isSome || decide (r.f1 > r.f1)) r.f0 st) := by
      rw [show (28 : Nat) = 27 + 1 from rfl, Dc3.inn, if_pos (by omega)]
    show _ = Dc3.inn 28 r.f0 r.f1 r.f2 p.isSome r.f1 st
    rw [hI, show (p.isSome || decide (r.f1 > r.f1)) = p.isSome by simp, show (r.f1 + 1 + 1439) / 1440 * 1440 = (r.f1 / 1440 + 1) * 1440 by omega]
theorem Dif_app (a : List Int) (x y : Int) : ∀ p, Dif p (a ++ [x]) → x ≠ y → Dif p (a ++ [x, y]) := by
  induction a with
  | nil => intro p h hne; exact ⟨h.1, by intro e; injection e with e; exact hne e, trivial⟩
  | cons k a ih => intro p h hne; exact ⟨h.1, ih _ h.2 hne⟩
theorem Dif_step (out : List S48) (r : S48) (h : Dif none (out.map (·.f0))) : Dif none ((stepR out r).map (·.f0)) := by
  rcases List.eq_nil_or_concat out with rfl | ⟨l, x, rfl⟩
  · rw [stepR_nil]
    exact ⟨by simp, trivial⟩
  · rw [List.concat_eq_append] at h ⊢
    rw [stepR_snoc]
    split
    · simpa using h
    · rename_i hne
      have h2 := Dif_app (l.map (·.f0)) x.f0 r.f0 none (by simpa using h) hne
      simpa using h2
theorem Dif_fold (l : List S48) : ∀ out : List S48, Dif none (out.map (·.f0)) → Dif none ((l.foldl stepR out).map (·.f0)) := by
  induction l with
  | nil => intro out h; exact h
  | cons r l ih => intro out h; exact ih _ (Dif_step out r h)
theorem kinds_rng (l : List S48) : ∀ p, TL p l → ∀ x ∈ kindsS l, 0 ≤ x ∧ x ≤ 3 := by
  induction l with
  | nil => intro p _ x hx; simp [kindsS] at hx
  | cons r l ih =>
    intro p h x hx
    have hz := flt_zero h.1
    rw [kindsS, List.flatMap_cons] at hx
    rcases List.mem_append.1 hx with hx | hx
    · have := List.eq_of_mem_replicate hx
      omega
    · exact ih _ h.2.2 x hx
theorem TL_mem (l : List S48) : ∀ p, TL p l → ∀ r ∈ l, fltS r.f0 r.f1 r.f2 = 0 := by
  induction l with
  | nil => intro p _ r hr; simp at hr
  | cons a l ih =>
    intro p h r hr
    rcases List.mem_cons.1 hr with rfl | hr
    · exact h.1
    · exact ih _ h.2.2 r hr
def encS (l : List S48) : ByteArray × Int := if (chkS l 0 none).2 = 0 then (if l.length = 0 then ((⟨#[]⟩ : ByteArray), 13) else (Dc4.encB ((mergeS l).map tup) ++ by2 (sm (Dc4.encB ((mergeS l).map tup))), 0)) else ((⟨#[]⟩ : ByteArray), (chkS l 0 none).2)
/-- A timeline's normal one. -/
theorem own_ok (l : List S48) (h : TL none l) : TL none (mergeS l) ∧ kindsS (mergeS l) = kindsS l ∧ begS (mergeS l) = begS l ∧ Dif none ((mergeS l).map (·.f0)) ∧ (l.length ≠ 0 → (mergeS l).length ≠ 0) := by
  have hlen := TL_len l h
  have hk := TL_kinds l _ (TL_some l h)
  have hfold := fold_ok (kindsS l) [] (begS l) (kinds_rng l _ h) hlen.2.1 (by have := hk.2 hlen.2.2; omega) trivial (.inl rfl)
  rw [norm_of l h] at hfold
  have hne : l.length ≠ 0 → kindsS l ≠ [] := by
    intro hl he
    cases l with
    | nil => exact hl rfl
    | cons r l =>
      have hz := flt_zero h.1
      unfold kindsS at he
      rw [List.flatMap_cons] at he
      have := congrArg List.length he
      simp at this
      omega
  have hkk : kindsS (mergeS l) = kindsS l := by rw [hfold.2.1]; rfl
  refine ⟨hfold.1, hkk, ?_, Dif_fold l [] trivial, fun hl hm => ?_⟩
  · by_cases hl : l.length = 0
    · obtain rfl := List.eq_nil_of_length_eq_zero hl
      rfl
    · exact hfold.2.2.2 rfl (hne hl)
  · have he := List.eq_nil_of_length_eq_zero hm
    rw [he] at hkk
    exact hne hl hkk.symm
theorem end_own (L : List S48) (e : Int) (h : L ≠ []) : (Dc3.ri (L.map tup) ((L.map tup).length - 1)).2.2 = endS e L := by
  rw [← end_rd L e h]
  have hl : 0 < L.length := List.length_pos_iff.mpr h
  have e1 : ((L.length : Int) - 1).toNat = L.length - 1 := by omega
  unfold Dc3.ri rd_T48
  rw [e1, List.length_map]
  simp [List.getD_eq_getElem?_getD, show L.length - 1 < L.length by omega, tup]
theorem beg_own (L : List S48) (h : L ≠ []) : (Dc3.ri (L.map tup) 0).2.1 = begS L := by
  cases L with
  | nil => exact absurd rfl h
  | cons r L => rfl
theorem good_own (l : List S48) (h : TL none l) (hl : l.length ≤ 100) : Dc4.GoodR ((mergeS l).map tup) := by
  refine ⟨by have := mergeS_len l; rw [List.length_map]; omega, fun r hr => ?_⟩
  obtain ⟨x, hx, rfl⟩ := List.mem_map.1 hr
  have hz := flt_zero (TL_mem _ _ (own_ok l h).1 x hx)
  exact ⟨⟨hz.1, hz.2.1⟩, ⟨hz.2.2.1, by show x.f1 ≤ 40320; omega⟩, by show 0 ≤ x.f2; omega, by show x.f2 ≤ 40320; omega⟩
theorem encB_eq (l : List S48) (h : TL none l) (hl : l.length ≠ 0) : Dc4.encB ((mergeS l).map tup) = Dc2.dayB (rl (begS l) none ((((⟨#[72, 68]⟩ : ByteArray) ++ by2 (begS l)) ++ by2 (endS (begS l) l)), []) (kindsS l)).1 (rl (begS l) none ((((⟨#[72, 68]⟩ : ByteArray) ++ by2 (begS l)) ++ by2 (endS (begS l) l)), []) (kindsS l)).2 := by
  obtain ⟨h1, h2, h3, h4, h5⟩ := own_ok l h
  have hne : mergeS l ≠ [] := fun e => h5 hl (by rw [e]; rfl)
  have hT := TL_some _ h1
  have hk := TL_kinds (mergeS l) _ hT
  have hk2 := TL_kinds l _ (TL_some l h)
  have hend : endS (begS l) (mergeS l) = endS (begS l) l := by rw [h3, h2] at hk; omega
  have hrl := fun st => rl_dys (mergeS l) _ none st hT h4
  rw [h3, h2] at hrl
  unfold Dc4.encB
  rw [beg_own _ hne, end_own _ (begS l) hne, h3, hend, putB_by2, putB_by2, hrl]
  rfl
theorem rl_phi (ks : List Int) : ∀ m p st, Dc3.phi (rl m p st ks) ≤ Dc3.phi st + 4 * ks.length := by
  induction ks with
  | nil => intro m p st; exact Nat.le_refl _
  | cons k ks ih =>
    intro m p st
    rw [rl]
    refine Nat.le_trans (ih _ _ _) ?_
    have := Dc3.ev_phi m p.isSome k st
    rw [List.length_cons]
    split <;> omega
theorem encB_size (l : List S48) (h : TL none l) (hl : l.length ≠ 0) : (Dc4.encB ((mergeS l).map tup)).size ≤ 1000000 := by
  rw [encB_eq l h hl, Dc2.dayB_size]
  have h1 := rl_phi (kindsS l) (begS l) none ((((⟨#[72, 68]⟩ : ByteArray) ++ by2 (begS l)) ++ by2 (endS (begS l) l)), [])
  have h2 := TL_len l h
  have h3 : Dc3.phi ((((⟨#[72, 68]⟩ : ByteArray) ++ by2 (begS l)) ++ by2 (endS (begS l) l)), []) = 6 := by
    unfold Dc3.phi
    simp [ByteArray.size_append, by2_size]
    rfl
  unfold Dc3.phi at h1 h3
  omega
theorem enc_f (l : List S48) (hl : l.length ≤ 100) : Ev (fun k => disc_Encode.f k l) (encS l) := by
  unfold disc_Encode.f
  refine Ev.bind (normal_f l (by omega)) ?_
  unfold normS encS
  by_cases h : (chkS l 0 none).2 = 0
  · have hT := (chk_TL l 0 none).1 h
    obtain ⟨h1, h2, h3, h4, h5⟩ := own_ok l hT
    simp only [if_pos h]
    by_cases h0 : l.length = 0
    · obtain rfl := List.eq_nil_of_length_eq_zero h0
      exact Ev.now _
    · have hg := good_own l hT hl
      have hgt : ((mergeS l).map disc_Encode.t) = ((mergeS l).map tup) := rfl
      simp only [if_neg h0, if_true, if_neg (h5 h0), hgt, if_pos hg]
      refine Ev.bind (seal_f _ (by have := encB_size l hT h0; omega)) ?_
      exact Ev.now _
  · simp only [if_neg h]
    exact Ev.now _
theorem renc_f (l : List S48) (hl : l.length ≤ 100) : Ev (fun k => haulierref11_Encode.f k l) (encS l) := by
  unfold haulierref11_Encode.f
  refine Ev.bind (rcheck_f l (by unfold maxLen; omega)) ?_
  unfold encS
  by_cases h : (chkS l 0 none).2 = 0
  · have hT := (chk_TL l 0 none).1 h
    simp only [if_pos h]
    by_cases h0 : l.length = 0
    · simp only [if_pos (show (l.length : Int) = 0 by omega), if_pos h0]
      exact Ev.now _
    · have hlen := TL_len l hT
      have hk := TL_kinds l _ (TL_some l hT)
      have hend := endT_eq l hT h0
      have hendS : endT l = endS (begS l) l := by unfold endT; rw [if_neg h0]
      simp only [if_neg (show ¬ (l.length : Int) = 0 by omega), if_neg h0, begin_f, Option.bind_some]
      refine Ev.bind (kinds_f l (by omega) hT) ?_
      simp only [rput_f (begS l) hlen.2.1 (by omega), Option.bind_some, by2_size, if_pos (show 2 + 2 ≤ 9223372036854775807 by omega), end_f l (by omega), rput_f (endT l) (by omega) (by omega), ByteArray.size_append]
      simp only [show (⟨#[72, 68]⟩ : ByteArray).size = 2 from rfl, if_pos (show 2 + 2 + 2 ≤ 9223372036854775807 by omega)]
      have := renc_l0 (begS l) (kindsS l) hlen.2.1 (by have := hk.2 hlen.2.2; omega) (kinds_rng l _ hT) (kindsS l).length 0 ((((⟨#[72, 68]⟩ : ByteArray) ++ by2 (begS l)) ++ by2 (endT l)), []) (by omega) (by unfold Dc3.phi; simp [ByteArray.size_append, by2_size]; decide)
      rw [hendS] at this ⊢
      rw [encB_eq l hT h0]
      have e0 : begS l + ((0 : Nat) : Int) = begS l := by omega
      rw [e0] at this
      exact this
  · simp only [if_neg h]
    exact Ev.now _

theorem DiscEncodes : haulierlaw11_DiscEncodes.Pure := by
  intro l h1 h2
  refine Ev.rounds ?_
  unfold haulierlaw11_DiscEncodes.f
  by_cases h : (l.length : Int) > 100
  · simp only [if_pos h]
    exact Ev.bind dalive_f (Ev.now _)
  · simp only [if_neg h]
    refine Ev.bind (enc_f l (by omega)) ?_
    refine Ev.bind (renc_f l (by omega)) ?_
    simp only [if_true]
    exact Ev.bind dalive_f (Ev.now _)


end Go.Proofs.Ytjpnfhnmcgejhaa.Pure
