/- A timeline's bytes are decoded as the normal one of its minutes; what is decoded is encoded as it was; a byte that is another one is found: lemmas on sums, records, the changes of a day read and written, and the pure statement of DiscBack. -/
import Derived.Test.YtjpnfhnmcgejhaaMDiscBackx7
set_option linter.unusedVariables false
set_option linter.unusedSimpArgs false
namespace Go.Proofs.Ytjpnfhnmcgejhaa.Pure
open Go.RowKit Go.Proofs.Ytjpnfhnmcgejhaa.MDiscBack Go.Proofs.YtjpnfhnmcgejhaaW.PrintWords Go.Proofs.YtjpnfhnmcgejhaaW.PrintLast

theorem w64 {x : Int} (h0 : -9223372036854775808 ≤ x) (h1 : x ≤ 9223372036854775807) : wrap64 x = x := by
  unfold wrap64
  omega
theorem tmod_nn {a : Int} (h : 0 ≤ a) (b : Int) : Int.tmod a b = a % b := by
  rw [Int.tmod_eq_emod_of_nonneg h]
theorem tdiv_nn {a : Int} (h : 0 ≤ a) (b : Int) : Int.tdiv a b = a / b := by
  rw [Int.tdiv_eq_ediv_of_nonneg h]
theorem ev_succ {α : Type} {g : Nat → Option α} {r : α} (h : Ev (fun k => g (k + 1)) r) : Ev g r := by
  obtain ⟨K, h⟩ := h
  refine ⟨K + 1, fun n hn => ?_⟩
  obtain ⟨m, rfl⟩ : ∃ m, n = m + 1 := ⟨n - 1, by omega⟩
  exact h m (by omega)

def IR (x : Int) : Prop := -9223372036854775808 ≤ x ∧ x ≤ 9223372036854775807
theorem ir_of {x : Int} (h : (Lit.int .i64 x).wf = true) : IR x := by simpa [IR, Lit.wf, IntKind.min, IntKind.max, IntKind.signed, IntKind.bits] using h
theorem rd_drop (xs : List Int) (i : Nat) (h : i < xs.length) : xs.drop i = rd xs (i : Int) :: xs.drop (i + 1) := by
  rw [List.drop_eq_getElem_cons h]
  simp [rd, h]
theorem rd_mem (xs : List Int) (i : Nat) (h : i < xs.length) : rd xs (i : Int) ∈ xs := by
  simp [rd, h]

theorem and255 (x : Int) : Go.bits .and .i64 x 255 = x % 256 := by
  unfold Go.bits
  simp only [BitVec.toNat_and, BitVec.toNat_ofInt]
  have h1 : ((255 : Int) % ((2 ^ IntKind.i64.bits : Nat) : Int)).toNat = 2 ^ 8 - 1 := by decide
  have h2 : ((2 ^ IntKind.i64.bits : Nat) : Int) = 18446744073709551616 := by decide
  rw [h1, Nat.and_two_pow_sub_one_eq_mod, IntKind.wrap_i64, h2]
  omega
theorem or8 {b a : Int} (hb0 : 0 ≤ b) (hb1 : b < 256) (ha0 : 0 ≤ a) (ha1 : a < 256) : Go.bits .or .i64 (b * 256) a = b * 256 + a :=
  bits_join .i64 16 (by decide) (fun n h0 h1 => by rw [IntKind.wrap_i64]; omega) 8 (b * 256) a (by omega) (by omega) (by omega) ha0 (by omega) (by omega)

def bl (s : ByteArray) : List Int := s.data.toList.map fun c => (c.toNat : Int)
theorem bl_length (s : ByteArray) : (bl s).length = s.size := by simp [bl]
theorem bl_range (s : ByteArray) : ∀ x ∈ bl s, 0 ≤ x ∧ x ≤ 255 := by
  intro x hx
  simp only [bl, List.mem_map] at hx
  obtain ⟨c, _, rfl⟩ := hx
  have := c.toNat_lt
  omega
theorem bt_bl (s : ByteArray) (i : Nat) (h : i < s.size) : (bl s)[i]? = some (bt s (i : Int)) := by
  unfold bt
  rw [dif_pos (by simpa using h)]
  simp only [bl, List.getElem?_map, Int.toNat_natCast]
  rw [List.getElem?_eq_getElem (by simpa using h)]
  rfl
theorem bl_drop (s : ByteArray) (i : Nat) (h : i < s.size) : (bl s).drop i = bt s (i : Int) :: (bl s).drop (i + 1) := by
  have h1 := bt_bl s i h
  obtain ⟨h2, h3⟩ := List.getElem?_eq_some_iff.1 h1
  rw [List.drop_eq_getElem_cons h2, h3]
theorem bl_append (s t : ByteArray) : bl (s ++ t) = bl s ++ bl t := by simp [bl, ByteArray.data_append]
theorem toList_inj {s t : ByteArray} (h : s.toList = t.toList) : s = t := by
  rw [ByteArray.toList_eq, ByteArray.toList_eq] at h
  cases s; cases t
  simp at h
  rw [h]
theorem bl_inj {s t : ByteArray} (h : bl s = bl t) : s = t := by
  apply toList_inj
  rw [ByteArray.toList_eq, ByteArray.toList_eq]
  unfold bl at h
  refine List.map_inj_right ?_ |>.1 h
  intro x y hxy
  exact UInt8.toNat_inj.1 (by omega)
theorem toList_bl {s t : ByteArray} : s.toList = t.toList ↔ bl s = bl t := by
  constructor
  · intro h; rw [toList_inj h]
  · intro h; rw [bl_inj h]
theorem bl_nums (xs : List Int) (h : ∀ x ∈ xs, 0 ≤ x ∧ x ≤ 255) : bl (strOfNums xs) = xs := by
  unfold bl strOfNums
  simp only [List.map_map]
  conv => rhs; rw [← List.map_id xs]
  apply List.map_congr_left
  intro x hx
  have := h x hx
  simp only [Function.comp]
  rw [UInt8.toNat_ofNat']
  simp
  omega
theorem bl_extract (s : ByteArray) (i j : Nat) : bl (s.extract i j) = ((bl s).take j).drop i := by
  simp [bl, ByteArray.data_extract, List.map_drop, List.map_take, List.drop_take]
theorem size_bl (s : ByteArray) : s.size = (bl s).length := (bl_length s).symm

def stF (p : Int × Int) (c : Int) : Int × Int := ((p.1 + c) % 255, (p.2 + (p.1 + c) % 255) % 255)
def fl (p : Int × Int) (l : List Int) : Int × Int := l.foldl stF p
def fin (p : Int × Int) : Int := p.2 * 256 + p.1
def Lo (p : Int × Int) : Prop := 0 ≤ p.1 ∧ p.1 < 255 ∧ 0 ≤ p.2 ∧ p.2 < 255
theorem stF_lo (p : Int × Int) (c : Int) : Lo (stF p c) := by
  unfold Lo stF
  simp only
  omega
theorem fl_lo (l : List Int) : ∀ p, Lo p → Lo (fl p l) := by
  induction l with
  | nil => intro p h; exact h
  | cons c l ih => intro p h; exact ih _ (stF_lo p c)
theorem fl_app (p : Int × Int) (l m : List Int) : fl p (l ++ m) = fl (fl p l) m := by simp [fl]
def begF (n : Int) : Int × Int := (n % 256 % 255, n / 256 % 256 % 255)
theorem begF_lo (n : Int) : Lo (begF n) := by
  unfold Lo begF
  simp only
  omega
def sm (s : ByteArray) : Int := fin (fl (0, 0) (bl s))
theorem lo0 : Lo (0, 0) := by unfold Lo; simp
theorem fin_range {p : Int × Int} (h : Lo p) : 0 ≤ fin p ∧ fin p ≤ 65278 := by
  unfold Lo at h
  unfold fin
  omega
theorem begF_fin {p : Int × Int} (h : Lo p) : begF (fin p) = p := by
  obtain ⟨a, b⟩ := p
  unfold Lo at h
  unfold begF fin
  simp only at h ⊢
  refine Prod.ext ?_ ?_ <;> simp only <;> omega
theorem add_l0 (s : ByteArray) (hs : s.size ≤ 140737488351232) (d : Nat) : ∀ (i : Nat) (a b : Int), i + d = s.size → Lo (a, b) →
    Ev (fun k => sum16_Add.l0 k s a b (s.size : Int) (i : Int)) (fin (fl (a, b) ((bl s).drop i))) := by
  induction d with
  | zero =>
    intro i a b hi hl
    rw [List.drop_of_length_le (by rw [bl_length]; omega)]
    unfold Lo at hl
    refine Ev.step (f := fun _ => some (b * 256 + a)) (fun k => ?_) (Ev.now _)
    simp only [sum16_Add.l0]
    rw [if_neg (by omega), w64 (by omega) (by omega), or8 (by omega) (by omega) (by omega) (by omega)]
  | succ d ih =>
    intro i a b hi hl
    have hr := bt_range s i
    have hl2 := stF_lo (a, b) (bt s i)
    have h := ih (i + 1) _ _ (by omega) hl2
    unfold Lo at hl
    rw [bl_drop s i (by omega)]
    refine Ev.step (fun k => ?_) h
    simp only [sum16_Add.l0]
    rw [if_pos (by omega), if_pos (by omega), if_pos (by omega)]
    rw [w64 (x := bt s i) (by omega) (by omega), w64 (x := a + bt s i) (by omega) (by omega), tmod_nn (by omega), w64 (x := b + (a + bt s i) % 255) (by omega) (by omega), tmod_nn (by omega), w64 (x := (i : Int) + 1) (by omega) (by omega)]
    rfl
theorem add_f (n : Int) (s : ByteArray) (hs : s.size ≤ 140737488351232) : Ev (fun k => sum16_Add.f k n s) (fin (fl (begF n) (bl s))) := by
  have h := add_l0 s hs s.size 0 _ _ (by omega) (begF_lo n)
  refine Ev.congr (fun k => ?_) h
  unfold sum16_Add.f
  rw [and255, and255, tmod_nn (by omega), tmod_nn (by omega)]
  rfl
theorem sum_f (s : ByteArray) (hs : s.size ≤ 140737488351232) : Ev (fun k => sum16_Sum.f k s) (sm s) := by
  unfold sum16_Sum.f
  exact Ev.bind (add_f 0 s hs) (Ev.now _)
def by2l (n : Int) : List Int := [n / 256 % 256, n % 256]
def by2 (n : Int) : ByteArray := strOfNums (by2l n)
theorem bl_by2 (n : Int) : bl (by2 n) = by2l n := by
  refine bl_nums _ ?_
  intro x hx
  simp only [by2l, List.mem_cons, List.not_mem_nil, or_false] at hx
  omega
theorem by2_size (n : Int) : (by2 n).size = 2 := by rw [size_bl, bl_by2]; rfl
theorem by2l_inj {p q : Int × Int} (hp : Lo p) (hq : Lo q) (h : by2l (fin p) = by2l (fin q)) : p = q := by
  simp only [by2l, List.cons.injEq, and_true] at h
  obtain ⟨a, b⟩ := p
  obtain ⟨c, d⟩ := q
  unfold Lo at hp hq
  unfold fin at h
  simp only at hp hq h
  refine Prod.ext ?_ ?_ <;> simp only <;> omega
theorem bytes_f (n : Int) : sum16_bytes.f n = some (by2 n) := rfl
def opn (s : ByteArray) : ByteArray × Int :=
  if s.size < 2 then (⟨#[]⟩, 8) else if (by2 (sm (s.extract 0 (s.size - 2)))).toList = (s.extract (s.size - 2) s.size).toList then (s.extract 0 (s.size - 2), 0) else (⟨#[]⟩, 9)
theorem ext_size (s : ByteArray) (i j : Nat) (hj : j ≤ s.size) : (s.extract i j).size ≤ s.size := by
  rw [size_bl, bl_extract, List.length_drop, List.length_take, bl_length]
  omega
theorem open_f (s : ByteArray) (hs : s.size ≤ 140737488351232) : Ev (fun k => sum16_Open.f k s) (opn s) := by
  unfold sum16_Open.f
  rw [w64 (x := (s.size : Int) - 2) (by omega) (by omega)]
  unfold opn
  by_cases h : s.size < 2
  · simp only [if_pos h, if_pos (show (s.size : Int) - 2 < 0 by omega)]
    exact Ev.now _
  · simp only [if_neg h, if_neg (show ¬ (s.size : Int) - 2 < 0 by omega), if_pos (show 0 ≤ (s.size : Int) - 2 by omega), if_pos (show (s.size : Int) - 2 ≤ (s.size : Int) by omega), show ((s.size : Int) - 2).toNat = s.size - 2 by omega]
    have := ext_size s 0 (s.size - 2) (by omega)
    refine Ev.bind (sum_f _ (by omega)) ?_
    simp only [bytes_f, Option.bind_some]
    split <;> exact Ev.now _
theorem bl_seal (s : ByteArray) : bl (s ++ by2 (sm s)) = bl s ++ by2l (sm s) := by rw [bl_append, bl_by2]
theorem seal_f (s : ByteArray) (hs : s.size ≤ 140737488351232) : Ev (fun k => sum16_Seal.f k s) (s ++ by2 (sm s)) := by
  unfold sum16_Seal.f
  refine Ev.bind (sum_f s hs) ?_
  simp only [bytes_f, Option.bind_some, by2_size]
  simp only [if_pos (show s.size + 2 ≤ 9223372036854775807 by omega)]
  exact Ev.now _
theorem opn_cases (u : ByteArray) (P : List Int) (n : Int) (h : bl u = P ++ by2l n) :
    opn u = if by2l (fin (fl (0, 0) P)) = by2l n then (u.extract 0 (u.size - 2), 0) else (⟨#[]⟩, 9) := by
  have hl : u.size = P.length + 2 := by rw [size_bl, h]; simp [by2l]
  unfold opn
  rw [if_neg (by omega)]
  simp only [toList_bl, bl_by2, bl_extract]
  have h1 : sm (u.extract 0 (u.size - 2)) = fin (fl (0, 0) P) := by
    unfold sm
    rw [bl_extract, h, hl]
    simp
  have h2 : ((bl u).take u.size).drop (u.size - 2) = by2l n := by
    rw [List.take_of_length_le (by rw [bl_length]; omega), h, hl]
    simp
  simp only [h1, h2]
theorem opn_seal (s : ByteArray) : opn (s ++ by2 (sm s)) = (s, 0) := by
  rw [opn_cases _ (bl s) (sm s) (bl_seal s), if_pos (show by2l (fin (fl (0, 0) (bl s))) = by2l (sm s) from rfl)]
  congr 1
  apply bl_inj
  rw [bl_extract, size_bl, bl_seal]
  simp [by2l]
theorem fl_ne1 (l : List Int) : ∀ p q, Lo p → Lo q → p.1 ≠ q.1 → (fl p l).1 ≠ (fl q l).1 := by
  induction l with
  | nil => intro p q _ _ h; exact h
  | cons c l ih =>
    intro p q hp hq h
    refine ih _ _ (stF_lo _ _) (stF_lo _ _) ?_
    unfold Lo at hp hq
    simp only [stF]
    omega
theorem fl_ne2 (l : List Int) : ∀ p q, Lo p → Lo q → p.1 = q.1 → p.2 ≠ q.2 → (fl p l).2 ≠ (fl q l).2 := by
  induction l with
  | nil => intro p q _ _ _ h; exact h
  | cons c l ih =>
    intro p q hp hq h1 h
    refine ih _ _ (stF_lo _ _) (stF_lo _ _) ?_ ?_
    · simp only [stF, h1]
    · unfold Lo at hp hq
      simp only [stF, h1]
      omega
theorem slip1 (A B : List Int) (x c : Int) (h : c % 255 ≠ x % 255) : fl (0, 0) (A ++ c :: B) ≠ fl (0, 0) (A ++ x :: B) := by
  rw [fl_app, fl_app]
  intro he
  refine fl_ne1 B (stF (fl (0, 0) A) c) (stF (fl (0, 0) A) x) (stF_lo _ _) (stF_lo _ _) ?_ (congrArg Prod.fst he)
  simp only [stF]
  omega
theorem slip2 (A B : List Int) (x y : Int) (h : x % 255 ≠ y % 255) : fl (0, 0) (A ++ y :: x :: B) ≠ fl (0, 0) (A ++ x :: y :: B) := by
  rw [fl_app, fl_app]
  intro he
  have hp := fl_lo A (0, 0) lo0
  refine fl_ne2 B (stF (stF (fl (0, 0) A) y) x) (stF (stF (fl (0, 0) A) x) y) (stF_lo _ _) (stF_lo _ _) ?_ ?_ (congrArg Prod.snd he)
  · simp only [stF]
    omega
  · simp only [stF]
    omega
theorem opn_slip (s u : ByteArray) (Q : List Int) (hu : bl u = Q ++ by2l (sm s)) (hne : fl (0, 0) Q ≠ fl (0, 0) (bl s)) : opn u = (⟨#[]⟩, 9) := by
  rw [opn_cases u Q _ hu, if_neg]
  intro he
  exact hne (by2l_inj (fl_lo _ _ lo0) (fl_lo _ _ lo0) he)
theorem empty_list : (⟨#[]⟩ : ByteArray).toList = ([] : List UInt8) := by rw [ByteArray.toList_eq]

theorem rdT_drop (xs : List S48) (i : Nat) (h : i < xs.length) : xs.drop i = rd_T48 xs (i : Int) :: xs.drop (i + 1) := by
  rw [List.drop_eq_getElem_cons h]
  simp [rd_T48, h]
theorem rdT_mem (xs : List S48) (i : Nat) (h : i < xs.length) : rd_T48 xs (i : Int) ∈ xs := by simp [rd_T48, h]
theorem rdT_get (xs : List S48) (i : Nat) (h : i < xs.length) : xs[i]? = some (rd_T48 xs (i : Int)) := by simp [rd_T48, h]
def fltS (a b c : Int) : Int := if a < 0 ∨ a > 3 then 2 else if b < 0 ∨ b > 40320 ∨ c < 0 ∨ c > 40320 then 4 else if c ≤ b then 3 else 0
def chkS : List S48 → Nat → Option Int → Int × Int
  | [], _, _ => (0, 0)
  | r :: l, i, p => if fltS r.f0 r.f1 r.f2 ≠ 0 then ((i : Int), fltS r.f0 r.f1 r.f2) else
    if (∃ e, p = some e ∧ r.f1 > e) then ((i : Int), 5) else if (∃ e, p = some e ∧ r.f1 < e) then ((i : Int), 6) else chkS l (i + 1) (some r.f2)
def prevS (l : List S48) (i : Nat) : Option Int := if i = 0 then none else some (rd_T48 l ((i - 1 : Nat) : Int)).f2

theorem kind_f (a : Int) : record_kind.f a = some (!decide (a < 0 ∨ a > 3)) := by
  unfold record_kind.f
  by_cases h : a ≥ 0
  · rw [if_pos h]; congr 1; by_cases h2 : a < 4 <;> simp [h2] <;> omega
  · rw [if_neg h]; congr 1; simp; omega
theorem in_f (a : Int) : record_in.f a = some (!decide (a < 0 ∨ a > 40320)) := by
  unfold record_in.f
  by_cases h : a ≥ 0
  · rw [if_pos h]; congr 1; by_cases h2 : a ≤ 40320 <;> simp [h2] <;> omega
  · rw [if_neg h]; congr 1; simp; omega
theorem fault_f (a b c : Int) : Ev (fun k => record_fault.f k a b c) (fltS a b c) := by
  unfold record_fault.f fltS
  simp only [kind_f, in_f, Option.bind_some, Bool.not_eq_true', decide_eq_false_iff_not]
  by_cases h1 : a < 0 ∨ a > 3
  · simp only [h1, not_true, if_false, if_true]
    exact Ev.now _
  · simp only [h1, not_false_eq_true, if_true, if_false]
    have hj : ∀ z : Bool, Ev (fun k => record_fault.j0 k z a b c) (if z = true then 4 else if c ≤ b then 3 else 0) := by
      intro z
      refine ev_succ ?_
      simp only [record_fault.j0]
      by_cases hz : z = true
      · simp only [if_pos hz]; exact Ev.now _
      · by_cases hc : c ≤ b
        · simp only [if_neg hz, if_pos hc]; exact Ev.now _
        · simp only [if_neg hz, if_neg hc]; exact Ev.now _
    by_cases h2 : b < 0 ∨ b > 40320
    · have := hj true
      simp only [h2, not_true, if_false]
      rw [if_pos (by omega)]
      simpa using this
    · simp only [h2, not_false_eq_true, if_true]
      have := hj (!!decide (c < 0 ∨ c > 40320))
      by_cases h3 : c < 0 ∨ c > 40320
      · rw [if_pos (by omega)]
        simpa [h3] using this
      · rw [if_neg (by omega)]
        simpa [h3] using this
theorem prevS_pos (l : List S48) (i : Nat) (h : 0 < i) (hi : i ≤ l.length) : prevS l i = some (rd_T48 l ((i : Int) - 1)).f2 := by
  unfold prevS
  rw [if_neg (by omega), show ((i - 1 : Nat) : Int) = (i : Int) - 1 by omega]
theorem prevS_succ (l : List S48) (i : Nat) : prevS l (i + 1) = some (rd_T48 l (i : Int)).f2 := by
  unfold prevS
  rw [if_neg (by omega)]
  rfl
theorem check_l0 (l : List S48) (hl : l.length ≤ maxLen) (d : Nat) : ∀ i : Nat, i + d = l.length → Ev (fun k => record_Check.l0 k l l (l.length : Int) (i : Int)) (chkS (l.drop i) i (prevS l i)) := by
  unfold maxLen at hl
  induction d with
  | zero =>
    intro i hi
    rw [List.drop_of_length_le (by omega)]
    refine ev_succ ?_
    simp only [record_Check.l0, if_neg (show ¬ (i : Int) < (l.length : Int) by omega)]
    exact Ev.now _
  | succ d ih =>
    intro i hi
    rw [rdT_drop l i (by omega)]
    have h := ih (i + 1) (by omega)
    rw [prevS_succ, show (((i + 1 : Nat) : Int)) = (i : Int) + 1 by omega] at h
    refine ev_succ ?_
    simp only [record_Check.l0, chkS, if_pos (show (i : Int) < (l.length : Int) by omega), if_pos (show (0 : Int) ≤ (i : Int) by omega), w64 (x := (i : Int) + 1) (by omega) (by omega), w64 (x := (i : Int) - 1) (by omega) (by omega)]
    refine Ev.bind (fault_f _ _ _) ?_
    by_cases h0 : fltS (rd_T48 l (i : Int)).f0 (rd_T48 l (i : Int)).f1 (rd_T48 l (i : Int)).f2 = 0
    · simp only [if_pos h0, h0, ne_eq, not_true, if_false]
      by_cases hz : (i : Int) = 0
      · have hz2 : i = 0 := by omega
        subst hz2
        simp only [if_pos hz, prevS, if_true]
        rw [if_neg (by rintro ⟨e, he, _⟩; cases he), if_neg (by rintro ⟨e, he, _⟩; cases he)]
        exact h
      · rw [prevS_pos l i (by omega) (by omega)]
        simp only [if_neg hz, if_pos (show 0 ≤ (i : Int) - 1 by omega), if_pos (show (i : Int) - 1 < (l.length : Int) by omega)]
        simp only [Option.some.injEq, exists_eq_left']
        by_cases h5 : (rd_T48 l (i : Int)).f1 > (rd_T48 l ((i : Int) - 1)).f2
        · simp only [if_pos h5]
          exact Ev.now _
        · by_cases h6 : (rd_T48 l (i : Int)).f1 < (rd_T48 l ((i : Int) - 1)).f2
          · simp only [if_neg h5, if_pos h6]
            exact Ev.now _
          · simp only [if_neg h5, if_neg h6]
            exact h
    · simp only [if_neg h0, ne_eq, h0, not_false_eq_true, if_true]
      exact Ev.now _
theorem check_f (l : List S48) (hl : l.length ≤ maxLen) : Ev (fun k => record_Check.f k l) (chkS l 0 none) := by
  unfold record_Check.f
  exact check_l0 l hl l.length 0 (by omega)

theorem rcheck_l0 (l : List S48) (hl : l.length ≤ maxLen) (d : Nat) : ∀ i : Nat, i + d = l.length → Ev (fun k => haulierref08_Check.l0 k l (i : Int)) (chkS (l.drop i) i (prevS l i)) := by
  unfold maxLen at hl
  induction d with
  | zero =>
    intro i hi
    rw [List.drop_of_length_le (by omega)]
    refine ev_succ ?_
    simp only [haulierref08_Check.l0, if_neg (show ¬ (i : Int) < (l.length : Int) by omega)]
    exact Ev.now _
  | succ d ih =>
    intro i hi
    rw [rdT_drop l i (by omega)]
    have h := ih (i + 1) (by omega)
    rw [prevS_succ, show (((i + 1 : Nat) : Int)) = (i : Int) + 1 by omega] at h
    generalize hr : rd_T48 l (i : Int) = r at h
    obtain ⟨a, b, c⟩ := r
    have h3 : ∀ z : Bool, fltS a b c = 0 → (z = true ↔ ∃ e, prevS l i = some e ∧ b > e) → Ev (fun k => haulierref08_Check.j3 k l (i : Int) z a b c) (chkS (⟨a, b, c⟩ :: l.drop (i + 1)) i (prevS l i)) := by
      intro z hf hz
      refine ev_succ ?_
      simp only [haulierref08_Check.j3, chkS, hf, ne_eq, not_true, if_false]
      by_cases hzt : z = true
      · simp only [if_pos hzt, if_pos (hz.1 hzt)]
        exact Ev.now _
      · have hz' : ¬ ∃ e, prevS l i = some e ∧ b > e := fun h => hzt (hz.2 h)
        simp only [if_neg hzt, if_neg hz']
        by_cases hi0 : (i : Int) > 0
        · rw [prevS_pos l i (by omega) (by omega)]
          simp only [if_pos hi0, w64 (x := (i : Int) - 1) (by omega) (by omega), w64 (x := (i : Int) + 1) (by omega) (by omega), if_pos (show 0 ≤ (i : Int) - 1 by omega), if_pos (show (i : Int) - 1 < (l.length : Int) by omega)]
          simp only [Option.some.injEq, exists_eq_left']
          by_cases h6 : b < (rd_T48 l ((i : Int) - 1)).f2
          · simp only [if_pos h6]
            exact Ev.now _
          · simp only [if_neg h6]
            exact h
        · have hz2 : i = 0 := by omega
          subst hz2
          simp only [if_neg hi0, prevS, if_true]
          rw [if_neg (by rintro ⟨e, he, _⟩; cases he)]
          simp only [w64 (x := ((0 : Nat) : Int) + 1) (by omega) (by omega)]
          exact h
    have h2 : ∀ z : Bool, ¬ (a < 0 ∨ a > 3) → (z = true ↔ b < 0 ∨ b > 40320 ∨ c < 0 ∨ c > 40320) → Ev (fun k => haulierref08_Check.j2 k l (i : Int) z a b c) (chkS (⟨a, b, c⟩ :: l.drop (i + 1)) i (prevS l i)) := by
      intro z ha hz
      refine ev_succ ?_
      simp only [haulierref08_Check.j2]
      by_cases hzt : z = true
      · have hf : fltS a b c = 4 := by unfold fltS; rw [if_neg ha, if_pos (hz.1 hzt)]
        simp only [if_pos hzt, chkS, hf]
        exact Ev.now _
      · have hz' : ¬ (b < 0 ∨ b > 40320 ∨ c < 0 ∨ c > 40320) := fun h => hzt (hz.2 h)
        by_cases hcb : c ≤ b
        · have hf : fltS a b c = 3 := by unfold fltS; rw [if_neg ha, if_neg hz', if_pos hcb]
          simp only [if_neg hzt, if_pos hcb, chkS, hf]
          exact Ev.now _
        · have hf : fltS a b c = 0 := by unfold fltS; rw [if_neg ha, if_neg hz', if_neg hcb]
          simp only [if_neg hzt, if_neg hcb]
          by_cases hi0 : (i : Int) > 0
          · simp only [if_pos hi0, w64 (x := (i : Int) - 1) (by omega) (by omega), if_pos (show 0 ≤ (i : Int) - 1 by omega), if_pos (show (i : Int) - 1 < (l.length : Int) by omega)]
            refine h3 _ hf ?_
            rw [prevS_pos l i (by omega) (by omega)]
            simp
          · simp only [if_neg hi0]
            refine h3 _ hf ?_
            have hz2 : i = 0 := by omega
            subst hz2
            simp [prevS]
    have h1 : ∀ z : Bool, (z = true ↔ a < 0 ∨ a > 3) → Ev (fun k => haulierref08_Check.j1 k l (i : Int) z a b c) (chkS (⟨a, b, c⟩ :: l.drop (i + 1)) i (prevS l i)) := by
      intro z hz
      refine ev_succ ?_
      simp only [haulierref08_Check.j1]
      by_cases hzt : z = true
      · have hf : fltS a b c = 2 := by unfold fltS; rw [if_pos (hz.1 hzt)]
        simp only [if_pos hzt, chkS, hf]
        exact Ev.now _
      · have ha : ¬ (a < 0 ∨ a > 3) := fun h => hzt (hz.2 h)
        simp only [if_neg hzt]
        by_cases c1 : b < 0
        · simp only [if_pos c1]
          exact h2 _ ha (by simp [c1])
        · by_cases c2 : b > 40320
          · simp only [if_neg c1, if_pos c2]
            exact h2 _ ha (by simp [c2])
          · by_cases c3 : c < 0
            · simp only [if_neg c1, if_neg c2, if_pos c3]
              exact h2 _ ha (by simp [c3])
            · simp only [if_neg c1, if_neg c2, if_neg c3]
              exact h2 _ ha (by simp; omega)
    refine ev_succ ?_
    simp only [haulierref08_Check.l0, hr, if_pos (show (i : Int) < (l.length : Int) by omega), if_pos (show (0 : Int) ≤ (i : Int) by omega)]
    by_cases ha : a < 0
    · simp only [if_pos ha]
      exact h1 _ (by simp [ha])
    · simp only [if_neg ha]
      exact h1 _ (by simp; omega)
theorem rcheck_f (l : List S48) (hl : l.length ≤ maxLen) : Ev (fun k => haulierref08_Check.f k l) (chkS l 0 none) := by
  unfold haulierref08_Check.f
  exact rcheck_l0 l hl l.length 0 (by omega)

def TL : Option Int → List S48 → Prop
  | _, [] => True
  | p, r :: l => fltS r.f0 r.f1 r.f2 = 0 ∧ (∀ e, p = some e → r.f1 = e) ∧ TL (some r.f2) l
theorem flt_pos (a b c : Int) : fltS a b c ≠ 0 ↔ (a < 0 ∨ a > 3 ∨ b < 0 ∨ c > 40320 ∨ c ≤ b) := by
  unfold fltS
  repeat' split
  all_goals simp
  all_goals omega
theorem flt_zero {a b c : Int} (h : fltS a b c = 0) : 0 ≤ a ∧ a ≤ 3 ∧ 0 ≤ b ∧ c ≤ 40320 ∧ b < c := by
  have := (flt_pos a b c)
  simp only [ne_eq, h, not_true, false_iff] at this
  omega
theorem chk_TL (l : List S48) : ∀ (i : Nat) (p : Option Int), (chkS l i p).2 = 0 ↔ TL p l := by
  induction l with
  | nil => intro i p; simp [chkS, TL]
  | cons r l ih =>
    intro i p
    simp only [chkS, TL]
    by_cases h0 : fltS r.f0 r.f1 r.f2 = 0
    · simp only [h0, ne_eq, not_true, if_false, true_and]
      by_cases h1 : ∃ e, p = some e ∧ r.f1 > e
      · rw [if_pos h1]
        obtain ⟨e, rfl, he⟩ := h1
        simp
        intro h2
        omega
      · rw [if_neg h1]
        by_cases h2 : ∃ e, p = some e ∧ r.f1 < e
        · rw [if_pos h2]
          obtain ⟨e, rfl, he⟩ := h2
          simp
          intro h2
          omega
        · rw [if_neg h2, ih]
          constructor
          · intro h
            refine ⟨fun e he => ?_, h⟩
            have a1 : ¬ r.f1 > e := fun h => h1 ⟨e, he, h⟩
            have a2 : ¬ r.f1 < e := fun h => h2 ⟨e, he, h⟩
            omega
          · exact fun h => h.2
    · simp only [h0, ne_eq, not_false_eq_true, if_true, false_and]
def stepR (out : List S48) (r : S48) : List S48 :=
  if 0 < out.length ∧ (rd_T48 out ((out.length : Int) - 1)).f0 = r.f0 then out.set (out.length - 1) ⟨(rd_T48 out ((out.length : Int) - 1)).f0, (rd_T48 out ((out.length : Int) - 1)).f1, r.f2⟩ else out ++ [r]
theorem rd_last (l : List S48) (x : S48) : rd_T48 (l ++ [x]) (((l ++ [x]).length : Int) - 1) = x := by
  unfold rd_T48
  rw [show (((l ++ [x]).length : Int) - 1).toNat = l.length by simp]
  simp
theorem stepR_nil (r : S48) : stepR [] r = [r] := by simp [stepR]
theorem stepR_snoc (l : List S48) (x r : S48) : stepR (l ++ [x]) r = if x.f0 = r.f0 then l ++ [⟨x.f0, x.f1, r.f2⟩] else l ++ [x, r] := by
  unfold stepR
  rw [rd_last]
  by_cases h : x.f0 = r.f0
  · rw [if_pos ⟨by simp, h⟩, if_pos h]
    simp
  · rw [if_neg (fun h2 => h h2.2), if_neg h]
    simp
theorem stepR_length (out : List S48) (r : S48) : (stepR out r).length ≤ out.length + 1 := by
  unfold stepR
  split
  · simp
  · simp
theorem stepR_two (out : List S48) (k b c b' c' : Int) : stepR (stepR out ⟨k, b, c⟩) ⟨k, b', c'⟩ = stepR out ⟨k, b, c'⟩ := by
  rcases List.eq_nil_or_concat out with rfl | ⟨l, x, rfl⟩
  · rw [stepR_nil, stepR_nil, show ([⟨k, b, c⟩] : List S48) = [] ++ [⟨k, b, c⟩] from rfl, stepR_snoc]
    simp
  · rw [List.concat_eq_append, stepR_snoc, stepR_snoc]
    simp only
    by_cases h : x.f0 = k
    · rw [if_pos h, if_pos h, stepR_snoc]
      simp [h]
    · rw [if_neg h, if_neg h, show l ++ [x, ⟨k, b, c⟩] = (l ++ [x]) ++ [⟨k, b, c⟩] by simp, stepR_snoc]
      simp
def ofFold : List S48 → Int → List Int → List S48
  | out, _, [] => out
  | out, m, k :: ks => ofFold (stepR out ⟨k, m, m + 1⟩) (m + 1) ks
theorem ofFold_app (ks ks' : List Int) : ∀ (out : List S48) (m : Int), ofFold out m (ks ++ ks') = ofFold (ofFold out m ks) (m + ks.length) ks' := by
  induction ks with
  | nil => intro out m; simp [ofFold]
  | cons k ks ih =>
    intro out m
    simp only [List.cons_append, ofFold, ih, List.length_cons]
    congr 1
    omega
theorem ofFold_run (k : Int) (n : Nat) : ∀ (out : List S48) (m : Int), ofFold out m (List.replicate (n + 1) k) = stepR out ⟨k, m, m + n + 1⟩ := by
  induction n with
  | zero => intro out m; simp [ofFold]
  | succ n ih =>
    intro out m
    rw [List.replicate_succ, ofFold, ih, stepR_two]
    congr 2
    omega
def kindsS (l : List S48) : List Int := l.flatMap fun r => List.replicate (r.f2 - r.f1).toNat r.f0
def endS : Int → List S48 → Int
  | e, [] => e
  | _, r :: l => endS r.f2 l
theorem TL_kinds (l : List S48) : ∀ e, TL (some e) l → e + (kindsS l).length = endS e l ∧ (e ≤ 40320 → endS e l ≤ 40320) := by
  induction l with
  | nil => intro e _; simp [kindsS, endS]
  | cons r l ih =>
    intro e h
    obtain ⟨h0, h1, h2⟩ := h
    have h3 := flt_zero h0
    have h4 := h1 e rfl
    obtain ⟨h5, h6⟩ := ih _ h2
    simp only [kindsS, List.flatMap_cons, List.length_append, List.length_replicate, endS] at h5 ⊢
    constructor
    · omega
    · intro _; exact h6 (by omega)
theorem TL_of (l : List S48) : ∀ (out : List S48) (e : Int), TL (some e) l → ofFold out e (kindsS l) = l.foldl stepR out := by
  induction l with
  | nil => intro out e _; rfl
  | cons r l ih =>
    intro out e h
    obtain ⟨h0, h1, h2⟩ := h
    have h3 := flt_zero h0
    have h4 := h1 e rfl
    subst h4
    obtain ⟨n, hn⟩ : ∃ n, (r.f2 - r.f1).toNat = n + 1 := ⟨(r.f2 - r.f1).toNat - 1, by omega⟩
    have he : r.f1 + (n : Int) + 1 = r.f2 := by omega
    simp only [kindsS, List.flatMap_cons, List.foldl_cons]
    rw [hn, ofFold_app, ofFold_run, he, List.length_replicate, show r.f1 + ((n + 1 : Nat) : Int) = r.f2 by omega]
    exact ih _ _ h2
def begS (l : List S48) : Int := match l with | [] => 0 | r :: _ => r.f1
theorem TL_some (l : List S48) (h : TL none l) : TL (some (begS l)) l := by
  cases l with
  | nil => trivial
  | cons r l => exact ⟨h.1, fun e he => by injection he, h.2.2⟩
theorem TL_len (l : List S48) (h : TL none l) : (kindsS l).length ≤ 40320 ∧ 0 ≤ begS l ∧ begS l ≤ 40320 := by
  have h1 := TL_kinds l _ (TL_some l h)
  have h2 : 0 ≤ begS l ∧ begS l ≤ 40320 := by
    cases l with
    | nil => simp [begS]
    | cons r l =>
      have := flt_zero h.1
      simp only [begS]
      omega
  have := h1.2 h2.2
  omega
def mergeS (l : List S48) : List S48 := l.foldl stepR []
def normS (l : List S48) : List S48 × Int := if (chkS l 0 none).2 = 0 then (mergeS l, 0) else ([], (chkS l 0 none).2)
theorem norm_of (l : List S48) (h : TL none l) : ofFold [] (begS l) (kindsS l) = mergeS l := TL_of l [] _ (TL_some l h)

theorem merged_l0 (l : List S48) (hl : l.length ≤ 1000000) (d : Nat) : ∀ (i : Nat) (out : List S48), i + d = l.length → out.length ≤ i → Ev (fun k => record_merged.l0 k out l (l.length : Int) (i : Int)) ((l.drop i).foldl stepR out) := by
  induction d with
  | zero =>
    intro i out hi ho
    rw [List.drop_of_length_le (by omega)]
    refine ev_succ ?_
    simp only [record_merged.l0, if_neg (show ¬ (i : Int) < (l.length : Int) by omega)]
    exact Ev.now _
  | succ d ih =>
    intro i out hi ho
    rw [rdT_drop l i (by omega)]
    have h := ih (i + 1) (stepR out (rd_T48 l (i : Int))) (by omega) (by have := stepR_length out (rd_T48 l (i : Int)); omega)
    rw [show (((i + 1 : Nat) : Int)) = (i : Int) + 1 by omega] at h
    refine ev_succ ?_
    simp only [record_merged.l0, if_pos (show (i : Int) < (l.length : Int) by omega), if_pos (show (0 : Int) ≤ (i : Int) by omega), w64 (x := (i : Int) + 1) (by omega) (by omega), w64 (x := (out.length : Int) - 1) (by omega) (by omega), List.foldl_cons, if_pos (show out.length < 5864062014805 by omega)]
    by_cases h0 : 0 < out.length
    · simp only [if_pos (show (out.length : Int) - 1 ≥ 0 by omega), if_pos (show 0 ≤ (out.length : Int) - 1 by omega), if_pos (show (out.length : Int) - 1 < (out.length : Int) by omega), show ((out.length : Int) - 1).toNat = out.length - 1 by omega]
      by_cases h1 : (rd_T48 out ((out.length : Int) - 1)).f0 = (rd_T48 l (i : Int)).f0
      · simp only [if_pos h1]
        have hs : stepR out (rd_T48 l (i : Int)) = out.set (out.length - 1) ⟨(rd_T48 out ((out.length : Int) - 1)).f0, (rd_T48 out ((out.length : Int) - 1)).f1, (rd_T48 l (i : Int)).f2⟩ := by unfold stepR; rw [if_pos ⟨h0, h1⟩]
        rw [hs] at h ⊢
        exact h
      · simp only [if_neg h1]
        have hs : stepR out (rd_T48 l (i : Int)) = out ++ [rd_T48 l (i : Int)] := by unfold stepR; rw [if_neg (fun h => h1 h.2)]
        rw [hs] at h ⊢
        exact h
    · simp only [if_neg (show ¬ (out.length : Int) - 1 ≥ 0 by omega)]
      have hs : stepR out (rd_T48 l (i : Int)) = out ++ [rd_T48 l (i : Int)] := by unfold stepR; rw [if_neg (fun h => h0 h.1)]
      rw [hs] at h ⊢
      exact h
theorem merged_f (l : List S48) (hl : l.length ≤ 1000000) : Ev (fun k => record_merged.f k l) (mergeS l) := by
  unfold record_merged.f
  exact merged_l0 l hl l.length 0 [] (by omega) (by simp)
theorem normal_f (l : List S48) (hl : l.length ≤ 1000000) : Ev (fun k => record_Normal.f k l) (normS l) := by
  unfold record_Normal.f normS
  refine Ev.bind (check_f l (by unfold maxLen; omega)) ?_
  by_cases h : (chkS l 0 none).2 = 0
  · simp only [if_pos h]
    exact Ev.bind (merged_f l hl) (Ev.now _)
  · simp only [if_neg h]
    exact Ev.now _

theorem neq48 (x y : S48) : (!(x.f0 == y.f0) || (!(x.f1 == y.f1) || (!(x.f2 == y.f2)))) = true ↔ x ≠ y := by
  obtain ⟨a, b, c⟩ := x
  obtain ⟨d, e, f⟩ := y
  simp only [Bool.or_eq_true, Bool.not_eq_true', beq_eq_false_iff_ne, ne_eq, S48.mk.injEq]
  omega
instance decS48 : DecidableEq S48 := fun x y => decidable_of_iff (x.f0 = y.f0 ∧ x.f1 = y.f1 ∧ x.f2 = y.f2) (by cases x; cases y; simp)
def sameS (a b : List S48) : Bool := decide (a = b)
theorem sameS_true {a b : List S48} : sameS a b = true ↔ a = b := by simp [sameS]
theorem sameS_refl (a : List S48) : sameS a a = true := sameS_true.2 rfl
theorem sameS_cons (x y : S48) (a b : List S48) : sameS (x :: a) (y :: b) = if x ≠ y then false else sameS a b := by
  by_cases h : x = y
  · rw [if_neg (by simp [h])]
    rw [Bool.eq_iff_iff, sameS_true, sameS_true]
    simp [h]
  · rw [if_pos h, Bool.eq_false_iff, ne_eq, sameS_true]
    simp [h]
theorem sameS_len {a b : List S48} (h : a.length ≠ b.length) : sameS a b = false := by
  rw [Bool.eq_false_iff, ne_eq, sameS_true]
  intro e
  exact h (by rw [e])
theorem same_l0 (a b : List S48) (ha : a.length ≤ 140737488351232) (hab : a.length = b.length) (d : Nat) : ∀ i : Nat, i + d = a.length → Ev (fun k => haulierref08_Same.l0 k a b (i : Int)) (sameS (a.drop i) (b.drop i)) := by
  induction d with
  | zero =>
    intro i hi
    rw [List.drop_of_length_le (by omega), List.drop_of_length_le (by omega), sameS_refl]
    refine ev_succ ?_
    simp only [haulierref08_Same.l0, if_neg (show ¬ (i : Int) < (a.length : Int) by omega)]
    exact Ev.now _
  | succ d ih =>
    intro i hi
    rw [rdT_drop a i (by omega), rdT_drop b i (by omega), sameS_cons]
    have h := ih (i + 1) (by omega)
    rw [show (((i + 1 : Nat) : Int)) = (i : Int) + 1 by omega] at h
    refine ev_succ ?_
    simp only [haulierref08_Same.l0, if_pos (show (i : Int) < (a.length : Int) by omega), if_pos (show (0 : Int) ≤ (i : Int) by omega), if_pos (show (i : Int) < (b.length : Int) by omega), w64 (x := (i : Int) + 1) (by omega) (by omega), neq48]
    by_cases h0 : rd_T48 a (i : Int) = rd_T48 b (i : Int)
    · simp only [ne_eq, h0, not_true, if_false]
      exact h
    · simp only [ne_eq, h0, not_false_eq_true, if_true]
      exact Ev.now _
theorem same_f (a b : List S48) (ha : a.length ≤ 140737488351232) : Ev (fun k => haulierref08_Same.f k a b) (sameS a b) := by
  unfold haulierref08_Same.f
  by_cases h : a.length = b.length
  · simp only [if_pos (show (a.length : Int) = (b.length : Int) by omega)]
    exact same_l0 a b ha h a.length 0 (by omega)
  · simp only [if_neg (show ¬ (a.length : Int) = (b.length : Int) by omega), sameS_len h]
    exact Ev.now _

theorem kinds_l1 (l : List S48) (hl : l.length ≤ 1000000) (i : Nat) (hi : i < l.length) (r : List Int) (n : Nat) : ∀ (out : List Int) (m : Int), -9223372036854775808 ≤ m → m + n ≤ 9223372036854775807 → (m + n = (rd_T48 l (i : Int)).f2 ∨ (n = 0 ∧ (rd_T48 l (i : Int)).f2 ≤ m)) → out.length + n ≤ 17592186044415 →
    Ev (fun k => haulierref08_Kinds.l0 k l (out ++ List.replicate n (rd_T48 l (i : Int)).f0) ((i : Int) + 1)) r → Ev (fun k => haulierref08_Kinds.l1 k l out (i : Int) m) r := by
  induction n with
  | zero =>
    intro out m h0 h1 h2 h3 h
    refine ev_succ ?_
    simp only [haulierref08_Kinds.l1, if_pos (show (0 : Int) ≤ (i : Int) by omega), if_pos (show (i : Int) < (l.length : Int) by omega), if_neg (show ¬ m < (rd_T48 l (i : Int)).f2 by omega), w64 (x := (i : Int) + 1) (by omega) (by omega)]
    simpa using h
  | succ n ih =>
    intro out m h0 h1 h2 h3 h
    refine ev_succ ?_
    simp only [haulierref08_Kinds.l1, if_pos (show (0 : Int) ≤ (i : Int) by omega), if_pos (show (i : Int) < (l.length : Int) by omega), if_pos (show m < (rd_T48 l (i : Int)).f2 by omega), w64 (x := m + 1) (by omega) (by omega), if_pos (show out.length < 17592186044416 by omega)]
    refine ih _ _ (by omega) (by omega) (by omega) (by simp; omega) ?_
    rw [List.append_assoc]
    exact h
theorem kinds_l0 (l : List S48) (hl : l.length ≤ 1000000) (d : Nat) : ∀ (i : Nat) (out : List Int) (e : Int), i + d = l.length → TL (some e) (l.drop i) → out.length + (kindsS (l.drop i)).length ≤ 17592186044415 →
    Ev (fun k => haulierref08_Kinds.l0 k l out (i : Int)) (out ++ kindsS (l.drop i)) := by
  induction d with
  | zero =>
    intro i out e hi _ _
    rw [List.drop_of_length_le (by omega)]
    refine ev_succ ?_
    simp only [haulierref08_Kinds.l0, if_neg (show ¬ (i : Int) < (l.length : Int) by omega), kindsS, List.flatMap_nil, List.append_nil]
    exact Ev.now _
  | succ d ih =>
    intro i out e hi ht hb
    rw [rdT_drop l i (by omega)] at ht hb ⊢
    obtain ⟨t0, t1, t2⟩ := ht
    have h3 := flt_zero t0
    simp only [kindsS, List.flatMap_cons, List.length_append, List.length_replicate] at hb
    have h := ih (i + 1) (out ++ List.replicate ((rd_T48 l (i : Int)).f2 - (rd_T48 l (i : Int)).f1).toNat (rd_T48 l (i : Int)).f0) _ (by omega) t2 (by simp only [kindsS, List.length_append, List.length_replicate]; omega)
    rw [show (((i + 1 : Nat) : Int)) = (i : Int) + 1 by omega] at h
    refine ev_succ ?_
    simp only [haulierref08_Kinds.l0, if_pos (show (i : Int) < (l.length : Int) by omega), if_pos (show (0 : Int) ≤ (i : Int) by omega)]
    refine kinds_l1 l hl i (by omega) _ ((rd_T48 l (i : Int)).f2 - (rd_T48 l (i : Int)).f1).toNat out _ (by omega) (by omega) (by omega) (by omega) ?_
    simp only [kindsS, List.flatMap_cons]
    rw [← List.append_assoc]
    exact h
theorem kinds_f (l : List S48) (hl : l.length ≤ 1000000) (h : TL none l) : Ev (fun k => haulierref08_Kinds.f k l) (kindsS l) := by
  unfold haulierref08_Kinds.f
  have h1 := TL_len l h
  have := kinds_l0 l hl l.length 0 [] (begS l) (by omega) (TL_some l h) (by simp; omega)
  simpa using this
theorem begin_f (l : List S48) : haulierref08_Begin.f l = some (begS l) := by
  unfold haulierref08_Begin.f begS
  cases l with
  | nil => rfl
  | cons r l =>
    rw [if_neg (by simp only [List.length_cons]; omega), if_pos (by simp only [List.length_cons]; omega)]
    rfl

theorem of_l0 (at_ : Int) (ks : List Int) (hk : ks.length ≤ 100000) (ha : 0 ≤ at_) (ha1 : at_ ≤ 1000000) (d : Nat) : ∀ (i : Nat) (out : List S48), i + d = ks.length → out.length ≤ i → Ev (fun k => haulierref08_Of.l0 k at_ ks out (i : Int)) (ofFold out (at_ + i) (ks.drop i)) := by
  induction d with
  | zero =>
    intro i out hi ho
    rw [List.drop_of_length_le (by omega)]
    refine ev_succ ?_
    simp only [haulierref08_Of.l0, if_neg (show ¬ (i : Int) < (ks.length : Int) by omega), ofFold]
    exact Ev.now _
  | succ d ih =>
    intro i out hi ho
    rw [rd_drop ks i (by omega)]
    have h := ih (i + 1) (stepR out ⟨rd ks (i : Int), at_ + i, at_ + i + 1⟩) (by omega) (by have := stepR_length out ⟨rd ks (i : Int), at_ + i, at_ + i + 1⟩; omega)
    rw [show (((i + 1 : Nat) : Int)) = (i : Int) + 1 by omega, show at_ + ((i : Int) + 1) = at_ + i + 1 by omega] at h
    refine ev_succ ?_
    simp only [haulierref08_Of.l0, ofFold, if_pos (show (i : Int) < (ks.length : Int) by omega), if_pos (show (0 : Int) ≤ (i : Int) by omega), w64 (x := (i : Int) + 1) (by omega) (by omega), w64 (x := (out.length : Int) - 1) (by omega) (by omega), if_pos (show out.length < 5864062014805 by omega), w64 (x := at_ + (i : Int)) (by omega) (by omega), w64 (x := at_ + (i : Int) + 1) (by omega) (by omega)]
    by_cases h0 : 0 < out.length
    · simp only [if_pos (show (out.length : Int) > 0 by omega), if_pos (show 0 ≤ (out.length : Int) - 1 by omega), if_pos (show (out.length : Int) - 1 < (out.length : Int) by omega), show ((out.length : Int) - 1).toNat = out.length - 1 by omega]
      by_cases h1 : (rd_T48 out ((out.length : Int) - 1)).f0 = rd ks (i : Int)
      · simp only [if_pos h1]
        have hs : stepR out ⟨rd ks (i : Int), at_ + i, at_ + i + 1⟩ = out.set (out.length - 1) ⟨(rd_T48 out ((out.length : Int) - 1)).f0, (rd_T48 out ((out.length : Int) - 1)).f1, at_ + i + 1⟩ := by unfold stepR; rw [if_pos ⟨h0, h1⟩]
        rw [hs] at h ⊢
        exact h
      · simp only [if_neg h1]
        have hs : stepR out ⟨rd ks (i : Int), at_ + i, at_ + i + 1⟩ = out ++ [⟨rd ks (i : Int), at_ + i, at_ + i + 1⟩] := by unfold stepR; rw [if_neg (fun h => h1 h.2)]
        rw [hs] at h ⊢
        exact h
    · simp only [if_neg (show ¬ (out.length : Int) > 0 by omega)]
      have hs : stepR out ⟨rd ks (i : Int), at_ + i, at_ + i + 1⟩ = out ++ [⟨rd ks (i : Int), at_ + i, at_ + i + 1⟩] := by unfold stepR; rw [if_neg (fun h => h0 h.1)]
      rw [hs] at h ⊢
      exact h
theorem of_f (at_ : Int) (ks : List Int) (hk : ks.length ≤ 100000) (ha : 0 ≤ at_) (ha1 : at_ ≤ 1000000) : Ev (fun k => haulierref08_Of.f k at_ ks) (ofFold [] at_ ks) := by
  unfold haulierref08_Of.f
  have := of_l0 at_ ks hk ha ha1 ks.length 0 [] (by omega) (by simp)
  simpa using this

theorem rnormal_f (l : List S48) (hl : l.length ≤ 1000000) : Ev (fun k => haulierref08_Normal.f k l) (normS l) := by
  unfold haulierref08_Normal.f normS
  refine Ev.bind (rcheck_f l (by unfold maxLen; omega)) ?_
  by_cases h : (chkS l 0 none).2 = 0
  · have ht := (chk_TL l 0 none).1 h
    have hb := TL_len l ht
    simp only [if_pos h, begin_f, Option.bind_some]
    refine Ev.bind (kinds_f l hl ht) ?_
    refine Ev.bind (of_f _ _ (by omega) hb.2.1 (by omega)) ?_
    rw [norm_of l ht]
    exact Ev.now _
  · simp only [if_neg h]
    exact Ev.now _

/-! the timeline of kinds may be, and has just these kinds -/
theorem flt_ok {a b c : Int} (h1 : 0 ≤ a) (h2 : a ≤ 3) (h3 : 0 ≤ b) (h4 : b < c) (h5 : c ≤ 40320) : fltS a b c = 0 := by
  unfold fltS
  rw [if_neg (by omega), if_neg (by omega), if_neg (by omega)]
def lastE : Option Int → List S48 → Option Int
  | p, [] => p
  | _, r :: l => lastE (some r.f2) l
theorem TL_app (a b : List S48) : ∀ p, TL p (a ++ b) ↔ TL p a ∧ TL (lastE p a) b := by
  induction a with
  | nil => intro p; simp [TL, lastE]
  | cons r a ih =>
    intro p
    simp only [List.cons_append, TL, lastE, ih, and_assoc]
theorem lastE_app (a : List S48) (e : S48) : ∀ p, lastE p (a ++ [e]) = some e.f2 := by
  induction a with
  | nil => intro p; rfl
  | cons r a ih => intro p; exact ih _
theorem kindsS_app (a b : List S48) : kindsS (a ++ b) = kindsS a ++ kindsS b := by simp [kindsS]
theorem kindsS_one (r : S48) : kindsS [r] = List.replicate (r.f2 - r.f1).toNat r.f0 := by simp [kindsS]
theorem begS_app (a b : List S48) (h : a ≠ []) : begS (a ++ b) = begS a := by
  cases a with
  | nil => exact absurd rfl h
  | cons r a => rfl
theorem fold_ok (ks : List Int) : ∀ (acc : List S48) (m : Int), (∀ k ∈ ks, 0 ≤ k ∧ k ≤ 3) → 0 ≤ m → m + ks.length ≤ 40320 → TL none acc → (acc = [] ∨ ∃ a0 e, acc = a0 ++ [e] ∧ e.f2 = m) →
    TL none (ofFold acc m ks) ∧ kindsS (ofFold acc m ks) = kindsS acc ++ ks ∧ (acc ≠ [] → begS (ofFold acc m ks) = begS acc) ∧ (acc = [] → ks ≠ [] → begS (ofFold acc m ks) = m) := by
  induction ks with
  | nil =>
    intro acc m _ _ _ hT _
    exact ⟨hT, by simp [ofFold], fun _ => rfl, fun _ h => absurd rfl h⟩
  | cons k ks ih =>
    intro acc m hk hm hl hT ha
    have hk0 := hk k List.mem_cons_self
    simp only [List.length_cons] at hl
    have key : TL none (stepR acc ⟨k, m, m + 1⟩) ∧ (∃ a0 e, stepR acc ⟨k, m, m + 1⟩ = a0 ++ [e] ∧ e.f2 = m + 1) ∧ kindsS (stepR acc ⟨k, m, m + 1⟩) = kindsS acc ++ [k] ∧ (acc ≠ [] → begS (stepR acc ⟨k, m, m + 1⟩) = begS acc) ∧ (acc = [] → begS (stepR acc ⟨k, m, m + 1⟩) = m) := by
      have hf := flt_ok hk0.1 hk0.2 hm (by omega : m < m + 1) (by omega)
      have hone : kindsS [(⟨k, m, m + 1⟩ : S48)] = [k] := by
        rw [kindsS_one]
        simp only []
        rw [show (m + 1 - m).toNat = 1 by omega]
        rfl
      rcases ha with rfl | ⟨a0, e, rfl, he⟩
      · rw [stepR_nil]
        exact ⟨⟨hf, (fun e h => by cases h), trivial⟩, ⟨[], _, rfl, rfl⟩, by rw [hone]; rfl, fun h => absurd rfl h, fun _ => rfl⟩
      · rw [TL_app] at hT
        have hfe := flt_zero hT.2.1
        rw [stepR_snoc]
        by_cases c : e.f0 = k
        · rw [if_pos (by exact c)]
          refine ⟨(TL_app _ _ _).2 ⟨hT.1, flt_ok hfe.1 hfe.2.1 hfe.2.2.1 (by simp only []; omega) (by simp only []; omega), hT.2.2.1, trivial⟩, ⟨a0, _, rfl, rfl⟩, ?_, ?_, fun h => by simp at h⟩
          · rw [kindsS_app, kindsS_app, kindsS_one, kindsS_one, List.append_assoc]
            congr 1
            simp only []
            rw [show (m + 1 - e.f1).toNat = (e.f2 - e.f1).toNat + 1 by omega, List.replicate_succ', c]
          · intro _
            cases a0 with
            | nil => rfl
            | cons r t => rfl
        · rw [if_neg (by exact c), show a0 ++ [e, (⟨k, m, m + 1⟩ : S48)] = (a0 ++ [e]) ++ [⟨k, m, m + 1⟩] by simp]
          refine ⟨(TL_app _ _ _).2 ⟨(TL_app _ _ _).2 hT, hf, fun q hq => ?_, trivial⟩, ⟨_, _, rfl, rfl⟩, by rw [kindsS_app (a0 ++ [e]), hone], fun h => begS_app _ _ h, fun h => by simp at h⟩
          rw [lastE_app] at hq
          injection hq with hq
          rw [← hq, he]
    obtain ⟨g1, g2, g3, g4, g5⟩ := key
    rw [ofFold]
    obtain ⟨i1, i2, i3, i4⟩ := ih (stepR acc ⟨k, m, m + 1⟩) (m + 1) (fun x hx => hk x (List.mem_cons_of_mem _ hx)) (by omega) (by omega) g1 (.inr g2)
    have hne : stepR acc ⟨k, m, m + 1⟩ ≠ [] := by
      obtain ⟨a0, e, h, _⟩ := g2
      rw [h]
      simp
    exact ⟨i1, by rw [i2, g3, List.append_assoc]; rfl, fun h => by rw [i3 hne, g4 h], fun h _ => by rw [i3 hne, g5 h]⟩

theorem end_rd (l : List S48) : ∀ (e : Int), l ≠ [] → (rd_T48 l ((l.length : Int) - 1)).f2 = endS e l := by
  induction l with
  | nil => intro e h; exact absurd rfl h
  | cons r l ih =>
    intro e _
    cases l with
    | nil => rfl
    | cons s l =>
      have h := ih r.f2 (by simp)
      simp only [endS] at h ⊢
      rw [← h]
      unfold rd_T48
      rw [show (((r :: s :: l).length : Int) - 1).toNat = ((((s :: l).length : Int) - 1).toNat) + 1 by simp only [List.length_cons]; omega]
      simp

theorem and2047 (x : Int) : Go.bits .and .i64 x 2047 = x % 2048 := by
  unfold Go.bits
  simp only [BitVec.toNat_and, BitVec.toNat_ofInt]
  have h1 : ((2047 : Int) % ((2 ^ IntKind.i64.bits : Nat) : Int)).toNat = 2 ^ 11 - 1 := by decide
  have h2 : ((2 ^ IntKind.i64.bits : Nat) : Int) = 18446744073709551616 := by decide
  rw [h1, Nat.and_two_pow_sub_one_eq_mod, IntKind.wrap_i64, h2]
  omega
theorem or11 {b a : Int} (hb0 : 0 ≤ b) (hb1 : b < 4) (ha0 : 0 ≤ a) (ha1 : a < 2048) : Go.bits .or .i64 (b * 2048) a = b * 2048 + a :=
  bits_join .i64 16 (by decide) (fun n h0 h1 => by rw [IntKind.wrap_i64]; omega) 11 (b * 2048) a (by omega) (by omega) (by omega) ha0 (by omega) (by omega)
def chg (kind minute : Int) : Int × Int := if kind < 0 ∨ kind > 3 then (0, 2) else if minute < 0 ∨ minute > 1439 then (0, 4) else (kind * 2048 + minute, 0)
theorem change_j0 (kind minute : Int) (b : Bool) (hb : b = true ↔ kind < 0 ∨ kind > 3) : Ev (fun k => disc_Change.j0 k kind minute b) (chg kind minute) := by
  refine ev_succ ?_
  simp only [disc_Change.j0, chg]
  by_cases h : b = true
  · simp only [if_pos h, if_pos (hb.1 h)]
    exact Ev.now _
  · have h2 : ¬ (kind < 0 ∨ kind > 3) := fun h3 => h (hb.2 h3)
    simp only [if_neg h, if_neg h2]
    by_cases h3 : minute < 0
    · simp only [if_pos h3, if_pos (show minute < 0 ∨ minute > 1439 from .inl h3)]
      exact Ev.now _
    · by_cases h4 : minute ≥ 1440
      · simp only [if_neg h3, if_pos h4, if_pos (show minute < 0 ∨ minute > 1439 by omega)]
        exact Ev.now _
      · simp only [if_neg h3, if_neg h4, if_neg (show ¬ (minute < 0 ∨ minute > 1439) by omega), w64 (x := kind * 2048) (by omega) (by omega), or11 (b := kind) (a := minute) (by omega) (by omega) (by omega) (by omega)]
        exact Ev.now _
theorem change_f (kind minute : Int) : Ev (fun k => disc_Change.f k kind minute) (chg kind minute) := by
  unfold disc_Change.f
  by_cases h : kind < 0
  · simp only [if_pos h]
    exact change_j0 _ _ _ (by simp [h])
  · simp only [if_neg h]
    exact change_j0 _ _ _ (by simp; omega)
theorem dalive_f : Ev (fun k => haulierlaw11_alive.f k) true := by
  unfold haulierlaw11_alive.f
  refine Ev.bind (change_f 3 5) ?_
  exact Ev.now _

theorem mergeS_len (l : List S48) : (mergeS l).length ≤ l.length := by
  have : ∀ (l out : List S48), (l.foldl stepR out).length ≤ out.length + l.length := by
    intro l
    induction l with
    | nil => intro out; simp
    | cons r l ih =>
      intro out
      have h1 := ih (stepR out r)
      have h2 := stepR_length out r
      simp only [List.foldl_cons, List.length_cons]
      omega
  have := this l []
  simpa [mergeS] using this
/-! Encode: the reference goes minute by minute, the program from change to change. -/
abbrev It := Dc3.It
def tup (x : S48) : It := (x.f0, x.f1, x.f2)
def cat (xs : List Int) : ByteArray := Dc2.catB ⟨#[]⟩ xs
theorem putB_by2 (n : Int) : Dc1.putB n = by2 n := rfl
theorem catB_bl (xs : List Int) : ∀ o, bl (Dc2.catB o xs) = bl o ++ bl (cat xs) := by
  induction xs with
  | nil => intro o; simp [cat, Dc2.catB, bl]
  | cons x t ih =>
    intro o
    have h1 := ih (o ++ Dc1.putB x)
    have h2 := ih ((⟨#[]⟩ : ByteArray) ++ Dc1.putB x)
    show bl (Dc2.catB (o ++ Dc1.putB x) t) = bl o ++ bl (Dc2.catB ((⟨#[]⟩ : ByteArray) ++ Dc1.putB x) t)
    rw [h1, h2, bl_append, bl_append]
    simp [bl]
theorem dayB_eq (o : ByteArray) (xs : List Int) : Dc2.dayB o xs = (o ++ by2 (xs.length : Int)) ++ cat xs := by
  refine bl_inj ?_
  unfold Dc2.dayB
  rw [catB_bl, bl_append (o ++ _)]
  rfl
theorem cat_nil : cat [] = ⟨#[]⟩ := rfl
theorem cat_snoc (xs : List Int) (c : Int) : cat (xs ++ [c]) = cat xs ++ by2 c := by
  unfold cat Dc2.catB
  rw [List.foldl_append]
  rfl
theorem cat_one (c : Int) : cat [c] = (⟨#[]⟩ : ByteArray) ++ by2 c := rfl
theorem cat_size (xs : List Int) : (cat xs).size = 2 * xs.length := by
  unfold cat
  rw [Dc2.catB_size]
  show 0 + _ = _
  omega
def rl : Int → Option Int → Dc3.St → List Int → Dc3.St
  | _, _, st, [] => st
  | m, p, st, k :: ks => rl (m + 1) (some k) (if p = none ∨ m % 1440 = 0 ∨ p ≠ some k then Dc3.ev m p.isSome k st else st) ks
def fin2 (st : Dc3.St) : ByteArray × Int := (Dc2.dayB st.1 st.2 ++ by2 (sm (Dc2.dayB st.1 st.2)), 0)
def pk (ks : List Int) (i : Nat) : Option Int := if i = 0 then none else some (rd ks ((i : Int) - 1))
theorem num_chg {k m : Int} (hk0 : 0 ≤ k) (hk1 : k ≤ 3) (hm : 0 ≤ m) : wrap64 (wrap64 (2048 * k) + Int.tmod m 1440) = Dc3.chg k m := by
  rw [tmod_nn hm]
  unfold Dc3.chg wrap64
  omega
theorem chg_rng {k m : Int} (hk0 : 0 ≤ k) (hk1 : k ≤ 3) : 0 ≤ Dc3.chg k m ∧ Dc3.chg k m ≤ 65535 := by
  unfold Dc3.chg
  omega
/-! the minutes of a record -/
theorem inn_end {D : Nat} {k f t : Int} {b : Bool} {m : Int} {st : Dc3.St} (h : ¬ m < t) : Dc3.inn D k f t b m st = st := by
  cases D with
  | zero => rfl
  | succ D => rw [Dc3.inn, if_neg h]
theorem rl_in (k f t : Int) (b : Bool) (rest : List Int) (d : Nat) : ∀ (D : Nat) (m : Int) (st : Dc3.St), m + d = t → 0 ≤ f → f < m → t ≤ ((m + 1439) / 1440 + D) * 1440 →
    rl m (some k) st (List.replicate d k ++ rest) = rl t (some k) (Dc3.inn D k f t b ((m + 1439) / 1440 * 1440) st) rest := by
  induction d with
  | zero =>
    intro D m st hm hf hfm hD
    rw [inn_end (by omega)]
    rw [List.replicate_zero, List.nil_append, show m = t by omega]
  | succ d ih =>
    intro D m st hm hf hfm hD
    rw [List.replicate_succ, List.cons_append, rl]
    by_cases hz : m % 1440 = 0
    · rw [if_pos (.inr (.inl hz))]
      obtain ⟨D, rfl⟩ : ∃ q, D = q + 1 := ⟨D - 1, by omega⟩
      rw [show (m + 1439) / 1440 * 1440 = m by omega, Dc3.inn, if_pos (by omega)]
      rw [ih D (m + 1) _ (by omega) hf (by omega) (by omega), show (m + 1 + 1439) / 1440 * 1440 = (m / 1440 + 1) * 1440 by omega]
      rw [show (b || decide (m > f)) = (some k).isSome by rw [show decide (m > f) = true from decide_eq_true (by omega)]; simp]
    · rw [if_neg (by intro h; rcases h with h | h | h; · cases h
                     · exact hz h
                     · exact h rfl)]
      rw [ih D (m + 1) _ (by omega) hf (by omega) (by omega), show (m + 1 + 1439) / 1440 * 1440 = (m + 1439) / 1440 * 1440 by omega]
def Dif : Option Int → List Int → Prop
  | _, [] => True
  | p, k :: t => p ≠ some k ∧ Dif (some k) t
theorem rl_dys (L : List S48) : ∀ (e : Int) (p : Option Int) (st : Dc3.St), TL (some e) L → Dif p (L.map (·.f0)) → rl e p st (kindsS L) = Dc3.dys (L.map tup) p.isSome st := by
  induction L with
  | nil => intro e p st _ _; rfl
  | cons r L ih =>
    intro e p st hT hD
    obtain ⟨hf, he, hT2⟩ := hT
    have hz := flt_zero hf
    obtain rfl := he e rfl
    obtain ⟨n, hn⟩ : ∃ n, (r.f2 - r.f1).toNat = n + 1 := ⟨(r.f2 - r.f1).toNat - 1, by omega⟩
    have hks : kindsS (r :: L) = r.f0 :: (List.replicate n r.f0 ++ kindsS L) := by
      unfold kindsS
      rw [List.flatMap_cons, hn, List.replicate_succ]
      rfl
    rw [hks, rl]
    have hev : (p = none ∨ r.f1 % 1440 = 0 ∨ p ≠ some r.f0) := .inr (.inr hD.1)
    rw [if_pos hev, rl_in r.f0 r.f1 r.f2 p.isSome (kindsS L) n 27 (r.f1 + 1) _ (by omega) (by omega) (by omega) (by omega)]
    rw [ih r.f2 (some r.f0) _ hT2 hD.2]
    show Dc3.dys (L.map tup) true _ = Dc3.dys (tup r :: L.map tup) p.isSome st
    rw [Dc3.dys]
    congr 1
    have hI : Dc3.inn 28 r.f0 r.f1 r.f2 p.isSome r.f1 st = Dc3.inn 27 r.f0 r.f1 r.f2 p.isSome ((r.f1 / 1440 + 1) * 1440) (Dc3.ev r.f1 (p.isSome || decide (r.f1 > r.f1)) r.f0 st) := by
      rw [show (28 : Nat) = 27 + 1 from rfl, Dc3.inn, if_pos (by omega)]
    show _ = Dc3.inn 28 r.f0 r.f1 r.f2 p.isSome r.f1 st
    rw [hI, show (p.isSome || decide (r.f1 > r.f1)) = p.isSome by simp, show (r.f1 + 1 + 1439) / 1440 * 1440 = (r.f1 / 1440 + 1) * 1440 by omega]
theorem Dif_app (a : List Int) (x y : Int) : ∀ p, Dif p (a ++ [x]) → x ≠ y → Dif p (a ++ [x, y]) := by
  induction a with
  | nil => intro p h hne; exact ⟨h.1, by intro e; injection e with e; exact hne e, trivial⟩
  | cons k a ih => intro p h hne; exact ⟨h.1, ih _ h.2 hne⟩
theorem Dif_step (out : List S48) (r : S48) (h : Dif none (out.map (·.f0))) : Dif none ((stepR out r).map (·.f0)) := by
  rcases List.eq_nil_or_concat out with rfl | ⟨l, x, rfl⟩
  · rw [stepR_nil]
    exact ⟨by simp, trivial⟩
  · rw [List.concat_eq_append] at h ⊢
    rw [stepR_snoc]
    split
    · simpa using h
    · rename_i hne
      have h2 := Dif_app (l.map (·.f0)) x.f0 r.f0 none (by simpa using h) hne
      simpa using h2
theorem Dif_fold (l : List S48) : ∀ out : List S48, Dif none (out.map (·.f0)) → Dif none ((l.foldl stepR out).map (·.f0)) := by
  induction l with
  | nil => intro out h; exact h
  | cons r l ih => intro out h; exact ih _ (Dif_step out r h)
theorem kinds_rng (l : List S48) : ∀ p, TL p l → ∀ x ∈ kindsS l, 0 ≤ x ∧ x ≤ 3 := by
  induction l with
  | nil => intro p _ x hx; simp [kindsS] at hx
  | cons r l ih =>
    intro p h x hx
    have hz := flt_zero h.1
    rw [kindsS, List.flatMap_cons] at hx
    rcases List.mem_append.1 hx with hx | hx
    · have := List.eq_of_mem_replicate hx
      omega
    · exact ih _ h.2.2 x hx
theorem TL_mem (l : List S48) : ∀ p, TL p l → ∀ r ∈ l, fltS r.f0 r.f1 r.f2 = 0 := by
  induction l with
  | nil => intro p _ r hr; simp at hr
  | cons a l ih =>
    intro p h r hr
    rcases List.mem_cons.1 hr with rfl | hr
    · exact h.1
    · exact ih _ h.2.2 r hr
def encS (l : List S48) : ByteArray × Int := if (chkS l 0 none).2 = 0 then (if l.length = 0 then ((⟨#[]⟩ : ByteArray), 13) else (Dc4.encB ((mergeS l).map tup) ++ by2 (sm (Dc4.encB ((mergeS l).map tup))), 0)) else ((⟨#[]⟩ : ByteArray), (chkS l 0 none).2)
/-- A timeline's normal one. -/
theorem own_ok (l : List S48) (h : TL none l) : TL none (mergeS l) ∧ kindsS (mergeS l) = kindsS l ∧ begS (mergeS l) = begS l ∧ Dif none ((mergeS l).map (·.f0)) ∧ (l.length ≠ 0 → (mergeS l).length ≠ 0) := by
  have hlen := TL_len l h
  have hk := TL_kinds l _ (TL_some l h)
  have hfold := fold_ok (kindsS l) [] (begS l) (kinds_rng l _ h) hlen.2.1 (by have := hk.2 hlen.2.2; omega) trivial (.inl rfl)
  rw [norm_of l h] at hfold
  have hne : l.length ≠ 0 → kindsS l ≠ [] := by
    intro hl he
    cases l with
    | nil => exact hl rfl
    | cons r l =>
      have hz := flt_zero h.1
      unfold kindsS at he
      rw [List.flatMap_cons] at he
      have := congrArg List.length he
      simp at this
      omega
  have hkk : kindsS (mergeS l) = kindsS l := by rw [hfold.2.1]; rfl
  refine ⟨hfold.1, hkk, ?_, Dif_fold l [] trivial, fun hl hm => ?_⟩
  · by_cases hl : l.length = 0
    · obtain rfl := List.eq_nil_of_length_eq_zero hl
      rfl
    · exact hfold.2.2.2 rfl (hne hl)
  · have he := List.eq_nil_of_length_eq_zero hm
    rw [he] at hkk
    exact hne hl hkk.symm
theorem end_own (L : List S48) (e : Int) (h : L ≠ []) : (Dc3.ri (L.map tup) ((L.map tup).length - 1)).2.2 = endS e L := by
  rw [← end_rd L e h]
  have hl : 0 < L.length := List.length_pos_iff.mpr h
  have e1 : ((L.length : Int) - 1).toNat = L.length - 1 := by omega
  unfold Dc3.ri rd_T48
  rw [e1, List.length_map]
  simp [List.getD_eq_getElem?_getD, show L.length - 1 < L.length by omega, tup]
theorem beg_own (L : List S48) (h : L ≠ []) : (Dc3.ri (L.map tup) 0).2.1 = begS L := by
  cases L with
  | nil => exact absurd rfl h
  | cons r L => rfl
theorem good_own (l : List S48) (h : TL none l) (hl : l.length ≤ 2000) : Dc4.GoodR ((mergeS l).map tup) := by
  refine ⟨by have := mergeS_len l; rw [List.length_map]; omega, fun r hr => ?_⟩
  obtain ⟨x, hx, rfl⟩ := List.mem_map.1 hr
  have hz := flt_zero (TL_mem _ _ (own_ok l h).1 x hx)
  exact ⟨⟨hz.1, hz.2.1⟩, ⟨hz.2.2.1, by show x.f1 ≤ 40320; omega⟩, by show 0 ≤ x.f2; omega, by show x.f2 ≤ 40320; omega⟩
theorem encB_eq (l : List S48) (h : TL none l) (hl : l.length ≠ 0) : Dc4.encB ((mergeS l).map tup) = Dc2.dayB (rl (begS l) none ((((⟨#[72, 68]⟩ : ByteArray) ++ by2 (begS l)) ++ by2 (endS (begS l) l)), []) (kindsS l)).1 (rl (begS l) none ((((⟨#[72, 68]⟩ : ByteArray) ++ by2 (begS l)) ++ by2 (endS (begS l) l)), []) (kindsS l)).2 := by
  obtain ⟨h1, h2, h3, h4, h5⟩ := own_ok l h
  have hne : mergeS l ≠ [] := fun e => h5 hl (by rw [e]; rfl)
  have hT := TL_some _ h1
  have hk := TL_kinds (mergeS l) _ hT
  have hk2 := TL_kinds l _ (TL_some l h)
  have hend : endS (begS l) (mergeS l) = endS (begS l) l := by rw [h3, h2] at hk; omega
  have hrl := fun st => rl_dys (mergeS l) _ none st hT h4
  rw [h3, h2] at hrl
  unfold Dc4.encB
  rw [beg_own _ hne, end_own _ (begS l) hne, h3, hend, putB_by2, putB_by2, hrl]
  rfl
theorem rl_phi (ks : List Int) : ∀ m p st, Dc3.phi (rl m p st ks) ≤ Dc3.phi st + 4 * ks.length := by
  induction ks with
  | nil => intro m p st; exact Nat.le_refl _
  | cons k ks ih =>
    intro m p st
    rw [rl]
    refine Nat.le_trans (ih _ _ _) ?_
    have := Dc3.ev_phi m p.isSome k st
    rw [List.length_cons]
    split <;> omega
theorem encB_size (l : List S48) (h : TL none l) (hl : l.length ≠ 0) : (Dc4.encB ((mergeS l).map tup)).size ≤ 1000000 := by
  rw [encB_eq l h hl, Dc2.dayB_size]
  have h1 := rl_phi (kindsS l) (begS l) none ((((⟨#[72, 68]⟩ : ByteArray) ++ by2 (begS l)) ++ by2 (endS (begS l) l)), [])
  have h2 := TL_len l h
  have h3 : Dc3.phi ((((⟨#[72, 68]⟩ : ByteArray) ++ by2 (begS l)) ++ by2 (endS (begS l) l)), []) = 6 := by
    unfold Dc3.phi
    simp [ByteArray.size_append, by2_size]
    rfl
  unfold Dc3.phi at h1 h3
  omega
theorem encB_small (l : List S48) (h : TL none l) (hl : l.length ≠ 0) : (Dc4.encB ((mergeS l).map tup)).size ≤ 200000 := by
  rw [encB_eq l h hl, Dc2.dayB_size]
  have h1 := rl_phi (kindsS l) (begS l) none ((((⟨#[72, 68]⟩ : ByteArray) ++ by2 (begS l)) ++ by2 (endS (begS l) l)), [])
  have h2 := TL_len l h
  have h3 : Dc3.phi ((((⟨#[72, 68]⟩ : ByteArray) ++ by2 (begS l)) ++ by2 (endS (begS l) l)), []) = 6 := by
    unfold Dc3.phi
    simp [ByteArray.size_append, by2_size]
    rfl
  unfold Dc3.phi at h1 h3
  omega
theorem enc_f (l : List S48) (hl : l.length ≤ 2000) : Ev (fun k => disc_Encode.f k l) (encS l) := by
  unfold disc_Encode.f
  refine Ev.bind (normal_f l (by omega)) ?_
  unfold normS encS
  by_cases h : (chkS l 0 none).2 = 0
  · have hT := (chk_TL l 0 none).1 h
    obtain ⟨h1, h2, h3, h4, h5⟩ := own_ok l hT
    simp only [if_pos h]
    by_cases h0 : l.length = 0
    · obtain rfl := List.eq_nil_of_length_eq_zero h0
      exact Ev.now _
    · have hg := good_own l hT hl
      have hgt : ((mergeS l).map disc_Encode.t) = ((mergeS l).map tup) := rfl
      simp only [if_neg h0, if_true, if_neg (h5 h0), hgt, if_pos hg]
      refine Ev.bind (seal_f _ (by have := encB_size l hT h0; omega)) ?_
      exact Ev.now _
  · simp only [if_neg h]
    exact Ev.now _

/-! Decode: what is read is what is written. -/
theorem num_at {s : ByteArray} {q : Nat} {n : Int} {Y : List Int} (h0 : 0 ≤ n) (h1 : n ≤ 65535) (h : (bl s).drop q = by2l n ++ Y) : Dd1.num s q = some n ∧ (bl s).drop (q + 2) = Y ∧ q + 2 ≤ s.size := by
  have hl := congrArg List.length h
  rw [List.length_drop, bl_length, List.length_append] at hl
  have hb : (by2l n).length = 2 := rfl
  rw [hb] at hl
  have d0 := bl_drop s q (by omega)
  have d1 := bl_drop s (q + 1) (by omega)
  rw [d0, d1] at h
  simp only [by2l, List.cons_append, List.nil_append, List.cons.injEq] at h
  obtain ⟨a, b, c⟩ := h
  refine ⟨?_, c, by omega⟩
  unfold Dd1.num
  rw [if_pos (by omega), a, show (q : Int) + 1 = ((q + 1 : Nat) : Int) by omega, b]
  congr 1
  omega
theorem num_drop {s : ByteArray} {q : Nat} {n : Int} (h : Dd1.num s q = some n) : (bl s).drop q = by2l n ++ (bl s).drop (q + 2) := by
  have hr := Dd1.num_rng h
  unfold Dd1.num at h
  rw [if_pos hr.2.2] at h
  have h1 := bt_range s (q : Int)
  have h2 := bt_range s ((q : Int) + 1)
  have hn := Option.some.inj h
  rw [bl_drop s q (by omega), bl_drop s (q + 1) (by omega)]
  simp only [by2l, List.cons_append, List.nil_append, List.cons.injEq]
  rw [show ((q + 1 : Nat) : Int) = (q : Int) + 1 by omega]
  exact ⟨by omega, by omega, by trivial⟩
theorem tld_chg {k m : Int} (h0 : 0 ≤ k) (h1 : k ≤ 3) : Dd1.tld (Dc3.chg k m) = (k, m % 1440, 0) := by
  unfold Dd1.tld Dc3.chg
  rw [if_neg (by omega), show (k * 2048 + m % 1440) / 2048 = k by omega, show (k * 2048 + m % 1440) % 2048 = m % 1440 by omega]
theorem tld_inv {n : Int} (h : (Dd1.tld n).2.2 = 0) : n = (Dd1.tld n).1 * 2048 + (Dd1.tld n).2.1 := by
  unfold Dd1.tld at h ⊢
  split at h
  · exact absurd h (by decide)
  · rename_i hc
    rw [if_neg hc]
    simp only
    omega
def chs (l : List S48) : List Int := l.map fun r => Dc3.chg r.f0 r.f1
theorem chs_app (a b : List S48) : chs (a ++ b) = chs a ++ chs b := List.map_append
def byL (cs : List Int) : List Int := cs.flatMap by2l
theorem byL_cons (c : Int) (t : List Int) : byL (c :: t) = by2l c ++ byL t := by
  unfold byL
  rw [List.flatMap_cons]
theorem bl_cat (cs : List Int) : bl (cat cs) = byL cs := by
  have : ∀ cs o, bl (Dc2.catB o cs) = bl o ++ byL cs := by
    intro cs
    induction cs with
    | nil => intro o; simp [Dc2.catB, byL]
    | cons c t ih =>
      intro o
      show bl (Dc2.catB (o ++ Dc1.putB c) t) = _
      rw [ih, bl_append, putB_by2, bl_by2, byL_cons, List.append_assoc]
  have h := this cs ⟨#[]⟩
  simpa [cat, bl] using h
theorem bl_dayB (o : ByteArray) (cs : List Int) : bl (Dc2.dayB o cs) = bl o ++ (by2l (cs.length : Int) ++ byL cs) := by
  rw [dayB_eq, bl_append, bl_append, bl_by2, bl_cat, List.append_assoc]
theorem end_app (a b : List S48) : ∀ e, endS e (a ++ b) = endS (endS e a) b := by
  induction a with
  | nil => intro e; rfl
  | cons r a ih => intro e; exact ih _
theorem lastE_end (a : List S48) : ∀ e, lastE (some e) a = some (endS e a) := by
  induction a with
  | nil => intro e; rfl
  | cons r a ih => intro e; exact ih _
theorem TL_end (l : List S48) : ∀ e, TL (some e) l → e ≤ endS e l := by
  induction l with
  | nil => intro e _; exact Int.le_refl _
  | cons r l ih =>
    intro e h
    have hz := flt_zero h.1
    have h1 := h.2.1 e rfl
    have := ih _ h.2.2
    show e ≤ endS r.f2 l
    omega
theorem Dif_app2 (a : List Int) (x : Int) (b : List Int) : ∀ p, Dif p (a ++ x :: b) ↔ Dif p (a ++ [x]) ∧ Dif (some x) b := by
  induction a with
  | nil =>
    intro p
    exact ⟨fun h => ⟨⟨h.1, trivial⟩, h.2⟩, fun h => ⟨h.1.1, h.2⟩⟩
  | cons y a ih =>
    intro p
    show p ≠ some y ∧ Dif (some y) (a ++ x :: b) ↔ (p ≠ some y ∧ Dif (some y) (a ++ [x])) ∧ Dif (some x) b
    rw [ih, and_assoc]
/-! a day -/
theorem lastTo_nil (f : Int) : Dd2.lastTo [] f = [] := rfl
theorem lastTo_snoc (a : List S48) (r : S48) (f : Int) : Dd2.lastTo ((a ++ [r]).map tup) f = (a ++ [(⟨r.f0, r.f1, f⟩ : S48)]).map tup := by
  unfold Dd2.lastTo
  have hl : ((a ++ [r]).map tup).length - 1 = a.length := by simp
  have hr : Dc3.ri ((a ++ [r]).map tup) a.length = tup r := by
    unfold Dc3.ri
    simp
  rw [hl, hr, List.map_append, List.map_append, List.set_append_right _ _ (by simp)]
  simp [tup]
theorem fine_nil (k m sf st : Int) : Dd1.fine [] k m sf st = (m == sf) := rfl
theorem fine_snoc (a : List S48) (r : S48) (k m sf st : Int) : Dd1.fine ((a ++ [r]).map tup) k m sf st = (decide (m > r.f1) && (decide (m < st) && decide (k ≠ r.f0))) := by
  unfold Dd1.fine
  rw [List.map_append, List.map_cons, List.map_nil, List.getLast?_concat]
  rfl
theorem chgP_inv {s : ByteArray} {q : Nat} {sf st : Int} {out : List It} {x : It} {q2 : Nat} (h : Dd2.chgP s q sf st out = some (x, q2)) (hsf : 0 ≤ sf) : ∃ k m, x = (k, m, st) ∧ q2 = q + 2 ∧ Dd1.fine out k m sf st = true ∧ 0 ≤ k ∧ k ≤ 3 ∧ sf - sf % 1440 ≤ m ∧ (bl s).drop q = by2l (Dc3.chg k m) ++ (bl s).drop (q + 2) := by
  unfold Dd2.chgP at h
  obtain ⟨n, hn, h⟩ := Option.bind_eq_some_iff.mp h
  split at h
  · rename_i hc
    simp only [Bool.and_eq_true, decide_eq_true_eq] at hc
    simp only [Option.some.injEq, Prod.mk.injEq] at h
    have hr := Dd1.tld_rng n
    have hi := tld_inv hc.1
    refine ⟨_, _, h.1.symm, h.2.symm, hc.2, hr.1, hr.2.1, by omega, ?_⟩
    have he : Dc3.chg (Dd1.tld n).1 ((Dd1.tld n).2.1 + (sf - sf % 1440)) = n := by
      unfold Dc3.chg
      omega
    rw [he]
    exact num_drop hn
  · cases h
/-- A day's records, as far as they are read. -/
def PD (sf st : Int) (l : List S48) : Prop := l = [] ∨ (TL (some sf) l ∧ endS sf l = st ∧ Dif none (l.map (·.f0)))
theorem dayL_ok {s : ByteArray} {sf st : Int} (hsf : 0 ≤ sf) (hlt : sf < st) (hst : st ≤ 40320) : ∀ (n q : Nat) (l : List S48) (L : List It) (q2 : Nat), PD sf st l → Dd2.dayL s sf st n q (l.map tup) = some (L, q2) →
    ∃ l', L = l'.map tup ∧ PD sf st l' ∧ ∃ cs, chs l' = chs l ++ cs ∧ cs.length = n ∧ (bl s).drop q = byL cs ++ (bl s).drop q2 := by
  intro n
  induction n with
  | zero =>
    intro q l L q2 hp h
    simp only [Dd2.dayL, Option.some.injEq, Prod.mk.injEq] at h
    obtain ⟨rfl, rfl⟩ := h
    exact ⟨l, rfl, hp, [], by simp, rfl, by simp [byL]⟩
  | succ n ih =>
    intro q l L q2 hp h
    rw [Dd2.dayL] at h
    obtain ⟨⟨x, q3⟩, hx, h⟩ := Option.bind_eq_some_iff.mp h
    obtain ⟨k, m, rfl, rfl, hf, hk0, hk1, hm, hd⟩ := chgP_inv hx hsf
    dsimp only at h
    have key : ∃ l2 : List S48, Dd2.lastTo (l.map tup) m ++ [(k, m, st)] = l2.map tup ∧ PD sf st l2 ∧ chs l2 = chs l ++ [Dc3.chg k m] := by
      rcases List.eq_nil_or_concat l with rfl | ⟨a, r, rfl⟩
      · rw [List.map_nil, fine_nil] at hf
        have hms : m = sf := by simpa using hf
        subst hms
        exact ⟨[(⟨k, m, st⟩ : S48)], rfl, .inr ⟨⟨flt_ok hk0 hk1 hsf hlt hst, fun e he => by injection he, trivial⟩, rfl, ⟨by simp, trivial⟩⟩, rfl⟩
      · rw [List.concat_eq_append] at hp hf ⊢
        rw [fine_snoc] at hf
        simp only [Bool.and_eq_true, decide_eq_true_eq] at hf
        rcases hp with hp | ⟨hT, hE, hD⟩
        · exact absurd hp (by simp)
        rw [TL_app, lastE_end] at hT
        have hz := flt_zero hT.2.1
        have hee := hT.2.2.1 _ rfl
        refine ⟨(a ++ [(⟨r.f0, r.f1, m⟩ : S48)]) ++ [(⟨k, m, st⟩ : S48)], ?_, .inr ⟨?_, ?_, ?_⟩, ?_⟩
        · rw [lastTo_snoc, List.map_append (l₂ := [(⟨k, m, st⟩ : S48)])]
          rfl
        · rw [TL_app, TL_app, lastE_app, lastE_end]
          exact ⟨⟨hT.1, flt_ok hz.1 hz.2.1 hz.2.2.1 hf.1 (by show m ≤ 40320; omega), fun e he => by injection he with he; rw [← he]; exact hee, trivial⟩, flt_ok (a := k) (b := m) (c := st) hk0 hk1 (show 0 ≤ m by have hf1 := hf.1; have hq := TL_end a sf hT.1; have hw : r.f1 = endS sf a := hee; omega) hf.2.1 hst, fun e he => by injection he, trivial⟩
        · rw [end_app]
          rfl
        · rw [List.map_append] at hD
          rw [List.map_append, List.map_append]
          have := Dif_app (a.map (·.f0)) r.f0 k none hD (fun e => hf.2.2 e.symm)
          simpa using this
        · rw [chs_app, chs_app, chs_app]
          rfl
    obtain ⟨l2, h1, h2, h3⟩ := key
    rw [h1] at h
    obtain ⟨l', e1, e2, cs, e3, e4, e5⟩ := ih _ _ _ _ h2 h
    refine ⟨l', e1, e2, Dc3.chg k m :: cs, by rw [e3, h3, List.append_assoc]; rfl, by simp [e4], ?_⟩
    rw [hd, e5, byL_cons, List.append_assoc]
def VD (sf st : Int) (l : List S48) : Prop := l ≠ [] ∧ TL (some sf) l ∧ endS sf l = st ∧ Dif none (l.map (·.f0))
theorem dayP_ok {s : ByteArray} {q : Nat} {sf st : Int} {L : List It} {q2 : Nat} (hsf : 0 ≤ sf) (hlt : sf < st) (hst : st ≤ 40320) (h : Dd2.dayP s q sf st = some (L, q2)) :
    ∃ l, L = l.map tup ∧ VD sf st l ∧ (bl s).drop q = by2l ((chs l).length : Int) ++ (byL (chs l) ++ (bl s).drop q2) := by
  unfold Dd2.dayP at h
  obtain ⟨n, hn, h⟩ := Option.bind_eq_some_iff.mp h
  have hr := Dd1.num_rng hn
  split at h
  · cases h
  · rename_i h0
    obtain ⟨l, e1, e2, cs, e3, e4, e5⟩ := dayL_ok hsf hlt hst n.toNat (q + 2) [] L q2 (.inl rfl) h
    have hcs : chs l = cs := by rw [e3]; rfl
    have hne : l ≠ [] := fun e => by
      rw [e] at hcs
      rw [← hcs] at e4
      simp [chs] at e4
      omega
    refine ⟨l, e1, ?_, ?_⟩
    · rcases e2 with e2 | e2
      · exact absurd e2 hne
      · exact ⟨hne, e2⟩
    · rw [num_drop hn, e5, hcs, show (cs.length : Int) = n by omega]
theorem dayL_get {s : ByteArray} {sf st : Int} (hsf : 0 ≤ sf) (hst : st ≤ (sf / 1440 + 1) * 1440) : ∀ (b a : List S48) (q : Nat) (Y : List Int), TL (some sf) (a ++ b) → endS sf (a ++ b) = st → Dif none ((a ++ b).map (·.f0)) → (bl s).drop q = byL (chs b) ++ Y →
    Dd2.dayL s sf st b.length q (Dd2.lastTo (a.map tup) st) = some ((a ++ b).map tup, q + 2 * b.length) ∧ (bl s).drop (q + 2 * b.length) = Y := by
  intro b
  induction b with
  | nil =>
    intro a q Y hT hE hD h
    have ha : Dd2.lastTo (a.map tup) st = a.map tup := by
      rcases List.eq_nil_or_concat a with rfl | ⟨a, r, rfl⟩
      · rfl
      · rw [List.concat_eq_append, List.append_nil] at hE
        rw [List.concat_eq_append, lastTo_snoc]
        rw [end_app] at hE
        have : r.f2 = st := hE
        subst this
        rfl
    refine ⟨?_, by simpa [chs, byL] using h⟩
    rw [List.append_nil]
    simp only [List.length_nil, Dd2.dayL]
    rw [ha]
    rfl
  | cons r b ih =>
    intro a q Y hT hE hD h
    have hT' := hT
    rw [TL_app, lastE_end] at hT'
    have hz := flt_zero hT'.2.1
    have hrb := TL_end b r.f2 hT'.2.2.2
    have hEb : endS r.f2 b = st := by rw [end_app] at hE; exact hE
    have hra := TL_end a sf hT'.1
    have hea : r.f1 = endS sf a := hT'.2.2.1 _ rfl
    have hcr := chg_rng (m := r.f1) hz.1 hz.2.1
    have hbs : byL (chs (r :: b)) = by2l (Dc3.chg r.f0 r.f1) ++ byL (chs b) := by
      unfold byL chs
      rw [List.map_cons, List.flatMap_cons]
    rw [hbs, List.append_assoc] at h
    obtain ⟨n1, n2, n3⟩ := num_at hcr.1 hcr.2 h
    have hmm : r.f1 % 1440 + (sf - sf % 1440) = r.f1 := by omega
    have hfine : Dd1.fine (Dd2.lastTo (a.map tup) st) r.f0 r.f1 sf st = true := by
      rcases List.eq_nil_or_concat a with rfl | ⟨a, p, rfl⟩
      · rw [List.map_nil, lastTo_nil, fine_nil]
        have : r.f1 = sf := hea
        simp [this]
      · rw [List.concat_eq_append] at hT' hD hea ⊢
        rw [lastTo_snoc, fine_snoc]
        have hp := hT'.1
        rw [TL_app] at hp
        have hpz := flt_zero hp.2.1
        rw [end_app] at hea
        have hea2 : r.f1 = p.f2 := hea
        have hne : r.f0 ≠ p.f0 := by
          rw [List.append_assoc, List.map_append, List.map_append, List.map_cons, List.map_nil, List.singleton_append, Dif_app2] at hD
          have := hD.2.1
          intro e
          exact this (congrArg some e.symm)
        simp only [Bool.and_eq_true, decide_eq_true_eq]
        exact ⟨by show r.f1 > p.f1; omega, by omega, hne⟩
    have hc : Dd2.chgP s q sf st (Dd2.lastTo (a.map tup) st) = some ((r.f0, r.f1, st), q + 2) := by
      unfold Dd2.chgP
      rw [n1, Option.bind_some, tld_chg hz.1 hz.2.1]
      simp only [hmm, hfine, decide_true, Bool.true_and, if_true]
    have hnx : Dd2.lastTo (Dd2.lastTo (a.map tup) st) r.f1 ++ [(r.f0, r.f1, st)] = Dd2.lastTo ((a ++ [r]).map tup) st := by
      rw [lastTo_snoc]
      rcases List.eq_nil_or_concat a with rfl | ⟨a, p, rfl⟩
      · rfl
      · rw [List.concat_eq_append] at hea ⊢
        rw [end_app] at hea
        have hea2 : r.f1 = p.f2 := hea
        rw [lastTo_snoc, lastTo_snoc, hea2, List.map_append (l₂ := [(⟨r.f0, p.f2, st⟩ : S48)])]
        rfl
    have := ih (a ++ [r]) (q + 2) Y (by rw [List.append_assoc]; exact hT) (by rw [List.append_assoc]; exact hE) (by rw [List.append_assoc]; exact hD) n2
    rw [List.append_assoc] at this
    refine ⟨?_, ?_⟩
    · rw [List.length_cons, Dd2.dayL, hc, Option.bind_some]
      dsimp only
      rw [hnx, this.1]
      simp only [List.singleton_append, Option.some.injEq, Prod.mk.injEq, true_and]
      omega
    · rw [List.length_cons, show q + 2 * (b.length + 1) = q + 2 + 2 * b.length by omega]
      exact this.2
theorem dayP_get {s : ByteArray} {q : Nat} {sf st : Int} {l : List S48} {Y : List Int} (hsf : 0 ≤ sf) (hst : st ≤ (sf / 1440 + 1) * 1440) (hv : VD sf st l) (hl : l.length ≤ 65535) (h : (bl s).drop q = by2l ((chs l).length : Int) ++ (byL (chs l) ++ Y)) : Dd2.dayP s q sf st = some (l.map tup, q + 2 + 2 * l.length) ∧ (bl s).drop (q + 2 + 2 * l.length) = Y := by
  have hcl : (chs l).length = l.length := by simp [chs]
  have hpos : 0 < l.length := List.length_pos_iff.mpr hv.1
  rw [hcl] at h
  obtain ⟨n1, n2, n3⟩ := num_at (n := (l.length : Int)) (by omega) (by omega) h
  obtain ⟨d1, d2⟩ := dayL_get hsf hst l [] (q + 2) Y hv.2.1 hv.2.2.1 hv.2.2.2 n2
  refine ⟨?_, d2⟩
  unfold Dd2.dayP
  rw [n1, Option.bind_some, if_neg (by omega), Int.toNat_natCast]
  exact d1

/-! the reference's minutes, a day after the other -/
def Fin (m : Int) (p : Option Int) (st : Dc3.St) (ks : List Int) : ByteArray := Dc2.dayB (rl m p st ks).1 (rl m p st ks).2
theorem kinds_cons (r : S48) (l : List S48) : kindsS (r :: l) = List.replicate (r.f2 - r.f1).toNat r.f0 ++ kindsS l := by
  unfold kindsS
  rw [List.flatMap_cons]
theorem rl_rep (r : S48) (hz : r.f1 < r.f2) (h0 : 0 ≤ r.f1) (hd : r.f2 ≤ (r.f1 / 1440 + 1) * 1440) (p : Option Int) (st : Dc3.St) (hev : p = none ∨ r.f1 % 1440 = 0 ∨ p ≠ some r.f0) (rest : List Int) :
    rl r.f1 p st (List.replicate (r.f2 - r.f1).toNat r.f0 ++ rest) = rl r.f2 (some r.f0) (Dc3.ev r.f1 p.isSome r.f0 st) rest := by
  obtain ⟨n, hn⟩ : ∃ n, (r.f2 - r.f1).toNat = n + 1 := ⟨(r.f2 - r.f1).toNat - 1, by omega⟩
  rw [hn, List.replicate_succ, List.cons_append, rl, if_pos hev]
  rw [rl_in r.f0 r.f1 r.f2 true rest n 0 (r.f1 + 1) _ (by omega) h0 (by omega) (by omega)]
  rfl
theorem rl_tail (l : List S48) : ∀ (e : Int) (k : Int) (o : ByteArray) (all : List Int) (c : Int) (rest : List Int), TL (some e) l → Dif (some k) (l.map (·.f0)) → 0 ≤ c → c % 1440 = 0 → c < e → endS e l ≤ c + 1440 →
    ∃ k', rl e (some k) (o, all) (kindsS l ++ rest) = rl (endS e l) (some k') (o, all ++ chs l) rest := by
  induction l with
  | nil => intro e k o all c rest _ _ _ _ _ _; exact ⟨k, by simp [kindsS, endS, chs]⟩
  | cons r l ih =>
    intro e k o all c rest hT hD hc0 hc hlt hle
    have hz := flt_zero hT.1
    have he := hT.2.1 e rfl
    subst he
    have hend := TL_end l r.f2 hT.2.2
    have hle2 : endS r.f2 l ≤ c + 1440 := hle
    have hev : Dc3.ev r.f1 (some k).isSome r.f0 (o, all) = (o, all ++ [Dc3.chg r.f0 r.f1]) := Dc3.ev_n (fun h => by have := h.1; omega)
    obtain ⟨k', hk'⟩ := ih r.f2 r.f0 o (all ++ [Dc3.chg r.f0 r.f1]) c rest hT.2.2 hD.2 hc0 hc (by omega) hle2
    refine ⟨k', ?_⟩
    rw [kinds_cons, List.append_assoc, rl_rep r hz.2.2.2.2 hz.2.2.1 (by omega) (some k) (o, all) (.inr (.inr hD.1)), hev, hk']
    rw [List.append_assoc]
    rfl
theorem day_rl {sf st : Int} {l : List S48} (hv : VD sf st l) (h0 : 0 ≤ sf) (hst : st ≤ (sf / 1440 + 1) * 1440) (p : Option Int) (o : ByteArray) (all : List Int) (hp : (p = none ∧ all = []) ∨ (p.isSome = true ∧ sf % 1440 = 0)) (rest : List Int) :
    ∃ k, rl sf p (o, all) (kindsS l ++ rest) = rl st (some k) (if p.isSome = true then Dc2.dayB o all else o, chs l) rest := by
  obtain ⟨hne, hT, hE, hD⟩ := hv
  cases l with
  | nil => exact absurd rfl hne
  | cons r l =>
    have hz := flt_zero hT.1
    have he := hT.2.1 sf rfl
    subst he
    have hend := TL_end l r.f2 hT.2.2
    have hE2 : endS r.f2 l = st := hE
    have hev : Dc3.ev r.f1 p.isSome r.f0 (o, all) = (if p.isSome = true then Dc2.dayB o all else o, [Dc3.chg r.f0 r.f1]) := by
      rcases hp with ⟨rfl, rfl⟩ | ⟨hp, hm⟩
      · rw [Dc3.ev_n (fun h => by simp at h)]
        rfl
      · rw [Dc3.ev_y hm hp, if_pos hp]
    have hc : p = none ∨ r.f1 % 1440 = 0 ∨ p ≠ some r.f0 := by
      rcases hp with ⟨hp, _⟩ | ⟨_, hm⟩
      · exact .inl hp
      · exact .inr (.inl hm)
    rw [kinds_cons, List.append_assoc, rl_rep r hz.2.2.2.2 hz.2.2.1 (by omega) p (o, all) hc, hev]
    obtain ⟨k', hk'⟩ := rl_tail l r.f2 r.f0 (if p.isSome = true then Dc2.dayB o all else o) [Dc3.chg r.f0 r.f1] (r.f1 / 1440 * 1440) rest hT.2.2 hD.2 (by omega) (by omega) (by omega) (by omega)
    exact ⟨k', by rw [hk', hE2]; rfl⟩
/-! all days -/
theorem byL_len (cs : List Int) : (byL cs).length = 2 * cs.length := by
  induction cs with
  | nil => rfl
  | cons c t ih =>
    rw [byL_cons, List.length_append, ih, List.length_cons]
    show 2 + _ = _
    omega
theorem daysP_ok {s : ByteArray} {to_ : Int} (hto : to_ ≤ 40320) : ∀ (d q : Nat) (cur : Int) (out L : List It) (q2 : Nat), 0 ≤ cur → cur % 1440 = 0 → Dd4.daysP s d q cur to_ out = some (L, q2) →
    ∃ ls : List S48, L = out ++ ls.map tup ∧ (cur < to_ → TL (some cur) ls ∧ endS cur ls = to_) ∧ (¬ cur < to_ → ls = []) ∧ ∃ R, (bl s).drop q = R ++ (bl s).drop q2 ∧ 2 * ls.length ≤ R.length ∧ ∀ k o all, bl (Fin cur (some k) (o, all) (kindsS ls)) = bl (Dc2.dayB o all) ++ R := by
  intro d
  induction d with
  | zero => intro q cur out L q2 _ _ h; cases h
  | succ d ih =>
    intro q cur out L q2 h0 hm h
    rw [Dd4.daysP] at h
    by_cases c : cur < to_
    · rw [if_pos c] at h
      obtain ⟨⟨L1, q1⟩, hd, h⟩ := Option.bind_eq_some_iff.mp h
      dsimp only at h
      obtain ⟨nx, hnx⟩ : ∃ nx, (if (cur / 1440 + 1) * 1440 < to_ then (cur / 1440 + 1) * 1440 else to_) = nx := ⟨_, rfl⟩
      rw [hnx] at hd
      have hnr : cur < nx ∧ nx ≤ to_ ∧ nx ≤ (cur / 1440 + 1) * 1440 := by
        rw [← hnx]
        split <;> omega
      obtain ⟨l, rfl, hv, hb⟩ := dayP_ok h0 hnr.1 (by omega) hd
      obtain ⟨ls, e1, e2, e3, R, e4, e6, e5⟩ := ih q1 ((cur / 1440 + 1) * 1440) (out ++ l.map tup) L q2 (by omega) (by omega) h
      refine ⟨l ++ ls, by rw [e1, List.append_assoc, List.map_append], fun _ => ?_, fun hn => absurd c hn, by2l ((chs l).length : Int) ++ (byL (chs l) ++ R), ?_, ?_, ?_⟩
      · by_cases c2 : (cur / 1440 + 1) * 1440 < to_
        · rw [if_pos c2] at hnx
          obtain ⟨f1, f2⟩ := e2 c2
          rw [TL_app, lastE_end, end_app, hv.2.2.1, ← hnx]
          exact ⟨⟨hv.2.1, f1⟩, f2⟩
        · rw [if_neg c2] at hnx
          rw [e3 c2, List.append_nil, hnx]
          exact ⟨hv.2.1, hv.2.2.1⟩
      · rw [hb, e4, List.append_assoc, List.append_assoc]
      · rw [List.length_append, List.length_append, List.length_append, byL_len, show (chs l).length = l.length by simp [chs]]
        omega
      · intro k o all
        obtain ⟨k', hk'⟩ := day_rl hv h0 hnr.2.2 (some k) o all (.inr ⟨rfl, hm⟩) (kindsS ls)
        have hks : kindsS (l ++ ls) = kindsS l ++ kindsS ls := kindsS_app l ls
        simp only [Option.isSome_some, if_true] at hk'
        unfold Fin
        rw [hks, hk']
        by_cases c2 : (cur / 1440 + 1) * 1440 < to_
        · rw [if_pos c2] at hnx
          have := e5 k' (Dc2.dayB o all) (chs l)
          rw [hnx] at this
          unfold Fin at this
          rw [this, bl_dayB, List.append_assoc, List.append_assoc]
        · have hls := e3 c2
          have := e5 k' (Dc2.dayB o all) (chs l)
          rw [hls] at this ⊢
          have hR : bl (Dc2.dayB (Dc2.dayB o all) (chs l)) = bl (Dc2.dayB (Dc2.dayB o all) (chs l)) ++ R := this
          show bl (Dc2.dayB (Dc2.dayB o all) (chs l)) = _
          rw [hR, bl_dayB, List.append_assoc, List.append_assoc]
    · rw [if_neg c] at h
      simp only [Option.some.injEq, Prod.mk.injEq] at h
      obtain ⟨rfl, rfl⟩ := h
      exact ⟨[], by simp, fun hn => absurd hn c, fun _ => rfl, [], by simp, by simp, fun k o all => by rw [List.append_nil]; rfl⟩
/-- A day's records, of its minutes' kinds. -/
theorem day_of (ks : List Int) (cur : Int) (hk : ∀ k ∈ ks, 0 ≤ k ∧ k ≤ 3) (h0 : 0 ≤ cur) (h1 : cur + ks.length ≤ 40320) (hne : ks ≠ []) : VD cur (cur + ks.length) (ofFold [] cur ks) ∧ kindsS (ofFold [] cur ks) = ks := by
  have hf := fold_ok ks [] cur hk h0 h1 trivial (.inl rfl)
  have hkk : kindsS (ofFold [] cur ks) = ks := by rw [hf.2.1]; rfl
  have hb := hf.2.2.2 rfl hne
  have hT := TL_some _ hf.1
  rw [hb] at hT
  have hE := (TL_kinds _ _ hT).1
  rw [hkk] at hE
  have hn : ofFold [] cur ks ≠ [] := fun e => by
    rw [e] at hkk
    exact hne hkk.symm
  have hD : ∀ (ks : List Int) (out : List S48) (m : Int), Dif none (out.map (·.f0)) → Dif none ((ofFold out m ks).map (·.f0)) := by
    intro ks
    induction ks with
    | nil => intro out m h; exact h
    | cons k ks ih => intro out m h; exact ih _ _ (Dif_step out _ h)
  exact ⟨⟨hn, hT, hE.symm, hD ks [] cur trivial⟩, hkk⟩
theorem VD_len {sf st : Int} {l : List S48} (hv : VD sf st l) : (l.length : Int) ≤ st - sf := by
  obtain ⟨_, hT, hE, _⟩ := hv
  have : ∀ (l : List S48) e, TL (some e) l → (l.length : Int) ≤ endS e l - e := by
    intro l
    induction l with
    | nil => intro e _; simp [endS]
    | cons r l ih =>
      intro e h
      have hz := flt_zero h.1
      have h1 := h.2.1 e rfl
      have := ih _ h.2.2
      show ((l.length + 1 : Nat) : Int) ≤ endS r.f2 l - e
      omega
  rw [← hE]
  exact this l sf hT
theorem daysP_get {to_ : Int} (hto : to_ ≤ 40320) : ∀ (d : Nat) (cur : Int) (K : List Int), (∀ k ∈ K, 0 ≤ k ∧ k ≤ 3) → 0 ≤ cur → cur % 1440 = 0 → cur < to_ + 1440 → to_ + 1440 ≤ (cur / 1440 + d) * 1440 → (cur < to_ → cur + K.length = to_) → (¬ cur < to_ → K = []) →
    ∃ (ls : List S48) (R : List Int), (cur < to_ → TL (some cur) ls) ∧ (¬ cur < to_ → ls = []) ∧ kindsS ls = K ∧ (∀ k o all, bl (Fin cur (some k) (o, all) K) = bl (Dc2.dayB o all) ++ R) ∧ ∀ (s : ByteArray) (q : Nat) (out : List It), (bl s).drop q = R → ∃ q2, Dd4.daysP s d q cur to_ out = some (out ++ ls.map tup, q2) ∧ ¬ q2 < s.size := by
  intro d
  induction d with
  | zero => intro cur K _ h0 hm hlt hd _ _; omega
  | succ d ih =>
    intro cur K hK h0 hm hlt hd hl hn
    by_cases c : cur < to_
    · have hcl := hl c
      obtain ⟨nx, hnx⟩ : ∃ nx, (if (cur / 1440 + 1) * 1440 < to_ then (cur / 1440 + 1) * 1440 else to_) = nx := ⟨_, rfl⟩
      have hnr : cur < nx ∧ nx ≤ to_ ∧ nx ≤ (cur / 1440 + 1) * 1440 := by
        rw [← hnx]
        split <;> omega
      have htl : (K.take (nx - cur).toNat).length = (nx - cur).toNat := by rw [List.length_take]; omega
      have hday := day_of (K.take (nx - cur).toNat) cur (fun k hk => hK k (List.mem_of_mem_take hk)) h0 (by omega) (fun e => by rw [e] at htl; simp at htl; omega)
      rw [show cur + ((K.take (nx - cur).toNat).length : Int) = nx by omega] at hday
      obtain ⟨hv, hkk⟩ := hday
      generalize ofFold [] cur (K.take (nx - cur).toNat) = l at hv hkk
      obtain ⟨ls, R, f1, f2, f3, f4, f5⟩ := ih ((cur / 1440 + 1) * 1440) (K.drop (nx - cur).toNat) (fun k hk => hK k (List.mem_of_mem_drop hk)) (by omega) (by omega) (by omega) (by omega) (fun c2 => by
        rw [if_pos c2] at hnx
        rw [List.length_drop]
        omega) (fun c2 => by
        rw [if_neg c2] at hnx
        exact List.drop_of_length_le (by omega))
      have hKs : K = kindsS l ++ kindsS ls := by rw [hkk, f3, List.take_append_drop]
      refine ⟨l ++ ls, by2l ((chs l).length : Int) ++ (byL (chs l) ++ R), fun _ => ?_, fun h => absurd c h, by rw [kindsS_app, ← hKs], ?_, ?_⟩
      · by_cases c2 : (cur / 1440 + 1) * 1440 < to_
        · rw [if_pos c2] at hnx
          rw [TL_app, lastE_end, hv.2.2.1, ← hnx]
          exact ⟨hv.2.1, f1 c2⟩
        · rw [f2 c2, List.append_nil]
          exact hv.2.1
      · intro k o all
        obtain ⟨k', hk'⟩ := day_rl hv h0 hnr.2.2 (some k) o all (.inr ⟨rfl, hm⟩) (kindsS ls)
        simp only [Option.isSome_some, if_true] at hk'
        unfold Fin
        rw [hKs, hk']
        have := f4 k' (Dc2.dayB o all) (chs l)
        rw [← f3] at this
        by_cases c2 : (cur / 1440 + 1) * 1440 < to_
        · rw [if_pos c2] at hnx
          rw [hnx] at this
          unfold Fin at this
          rw [this, bl_dayB, List.append_assoc, List.append_assoc]
        · have hls := f2 c2
          rw [hls] at this ⊢
          have hR : bl (Dc2.dayB (Dc2.dayB o all) (chs l)) = bl (Dc2.dayB (Dc2.dayB o all) (chs l)) ++ R := this
          show bl (Dc2.dayB (Dc2.dayB o all) (chs l)) = _
          rw [hR, bl_dayB, List.append_assoc, List.append_assoc]
      · intro s q out h
        have hvl := VD_len hv
        obtain ⟨g1, g2⟩ := dayP_get h0 hnr.2.2 hv (by omega) h
        obtain ⟨q2, g3, g4⟩ := f5 s _ (out ++ l.map tup) g2
        refine ⟨q2, ?_, g4⟩
        rw [Dd4.daysP, if_pos c, hnx, g1, Option.bind_some]
        dsimp only
        rw [g3, List.append_assoc, List.map_append]
    · refine ⟨[], [], fun h => absurd h c, fun _ => rfl, (hn c).symm, fun k o all => by rw [hn c, List.append_nil]; rfl, fun s q out h => ?_⟩
      refine ⟨q, by rw [Dd4.daysP, if_neg c]; simp, ?_⟩
      have := congrArg List.length h
      rw [List.length_drop, bl_length] at this
      simp at this
      omega

/-! the whole -/
theorem hd_bl : bl (⟨#[72, 68]⟩ : ByteArray) = [72, 68] := by decide
theorem begin_get {s : ByteArray} {f u : Int} {Y : List Int} (h : bl s = [72, 68] ++ (by2l f ++ (by2l u ++ Y))) (h0 : 0 ≤ f) (h1 : f < u) (h2 : u ≤ 40320) : Dd3.beginP s = some (f, u) ∧ (bl s).drop 6 = Y := by
  have d2 : (bl s).drop 2 = by2l f ++ (by2l u ++ Y) := by rw [h]; rfl
  obtain ⟨n1, n2, n3⟩ := num_at (by omega) (by omega) d2
  obtain ⟨m1, m2, m3⟩ := num_at (by omega) (by omega) n2
  have b0 := bl_drop s 0 (by omega)
  have b1 := bl_drop s 1 (by omega)
  have e0 : (bl s).drop 0 = 72 :: 68 :: (by2l f ++ (by2l u ++ Y)) := by rw [h]; rfl
  rw [b0, b1] at e0
  simp only [List.cons.injEq] at e0
  refine ⟨?_, m2⟩
  unfold Dd3.beginP
  rw [if_pos ⟨by omega, e0.1, e0.2.1⟩, n1, Option.bind_some, m1, Option.bind_some, if_pos ⟨h1, h2⟩]
theorem begin_inv {s : ByteArray} {f u : Int} (h : Dd3.beginP s = some (f, u)) : bl s = [72, 68] ++ (by2l f ++ (by2l u ++ (bl s).drop 6)) ∧ 0 ≤ f ∧ f < u ∧ u ≤ 40320 := by
  have hr := Dd4.beginP_rng h
  unfold Dd3.beginP at h
  split at h
  · rename_i hc
    obtain ⟨a, ha, h⟩ := Option.bind_eq_some_iff.mp h
    obtain ⟨b, hb, h⟩ := Option.bind_eq_some_iff.mp h
    split at h
    · simp only [Option.some.injEq, Prod.mk.injEq] at h
      obtain ⟨rfl, rfl⟩ := h
      refine ⟨?_, hr.1, hr.2.1, hr.2.2.1⟩
      have b0 := bl_drop s 0 (by omega)
      have b1 := bl_drop s 1 (by omega)
      rw [List.drop_zero] at b0
      rw [b0, b1, num_drop ha, num_drop hb]
      rw [show bt s ((0 : Nat) : Int) = 72 from hc.2.1, show bt s ((1 : Nat) : Int) = 68 from hc.2.2]
      rfl
    · cases h
  · cases h
theorem TL_none (l : List S48) (e : Int) (h : TL (some e) l) : TL none l ∧ (l ≠ [] → begS l = e) := by
  cases l with
  | nil => exact ⟨trivial, fun h => absurd rfl h⟩
  | cons r l => exact ⟨⟨h.1, (fun e h => by cases h), h.2.2⟩, fun _ => h.2.1 e rfl⟩
theorem encB_fin (l : List S48) (h : TL none l) (hl : l.length ≠ 0) : Dc4.encB ((mergeS l).map tup) = Fin (begS l) none ((((⟨#[72, 68]⟩ : ByteArray) ++ by2 (begS l)) ++ by2 (endS (begS l) l)), []) (kindsS l) := encB_eq l h hl
theorem dec_enc (l : List S48) (hT : TL none l) (hl : l.length ≠ 0) : ∃ ls : List S48, Dd4.decP (Dc4.encB ((mergeS l).map tup)) = some (ls.map tup) ∧ TL none ls ∧ kindsS ls = kindsS l ∧ begS ls = begS l := by
  have hlen := TL_len l hT
  have hk := TL_kinds l _ (TL_some l hT)
  have hrng := kinds_rng l _ hT
  have hend := hk.2 hlen.2.2
  have hkne : 0 < (kindsS l).length := by
    have := own_ok l hT
    cases l with
    | nil => exact absurd rfl hl
    | cons r l =>
      have hz := flt_zero hT.1
      rw [kinds_cons, List.length_append, List.length_replicate]
      omega
  rw [encB_fin l hT hl]
  generalize hb : begS l = b at *
  generalize hK : kindsS l = K at *
  generalize hu : endS b l = u at *
  obtain ⟨nx, hnx⟩ : ∃ nx, (if (b / 1440 + 1) * 1440 < u then (b / 1440 + 1) * 1440 else u) = nx := ⟨_, rfl⟩
  have hnr : b < nx ∧ nx ≤ u ∧ nx ≤ (b / 1440 + 1) * 1440 := by
    rw [← hnx]
    split <;> omega
  have htl : (K.take (nx - b).toNat).length = (nx - b).toNat := by rw [List.length_take]; omega
  have hday := day_of (K.take (nx - b).toNat) b (fun k hk => hrng k (List.mem_of_mem_take hk)) hlen.2.1 (by omega) (fun e => by rw [e] at htl; simp at htl; omega)
  rw [show b + ((K.take (nx - b).toNat).length : Int) = nx by omega] at hday
  obtain ⟨hv, hkk⟩ := hday
  generalize ofFold [] b (K.take (nx - b).toNat) = l1 at hv hkk
  obtain ⟨ls, R, f1, f2, f3, f4, f5⟩ := daysP_get hend 29 ((b / 1440 + 1) * 1440) (K.drop (nx - b).toNat) (fun k hk => hrng k (List.mem_of_mem_drop hk)) (by omega) (by omega) (by omega) (by omega) (fun c2 => by
    rw [if_pos c2] at hnx
    rw [List.length_drop]
    omega) (fun c2 => by
    rw [if_neg c2] at hnx
    exact List.drop_of_length_le (by omega))
  have hKs : K = kindsS l1 ++ kindsS ls := by rw [hkk, f3, List.take_append_drop]
  have hTT : TL (some b) (l1 ++ ls) := by
    by_cases c2 : (b / 1440 + 1) * 1440 < u
    · rw [if_pos c2] at hnx
      rw [TL_app, lastE_end, hv.2.2.1, ← hnx]
      exact ⟨hv.2.1, f1 c2⟩
    · rw [f2 c2, List.append_nil]
      exact hv.2.1
  refine ⟨l1 ++ ls, ?_, (TL_none _ _ hTT).1, by rw [kindsS_app, ← hKs], (TL_none _ _ hTT).2 (by simp [hv.1])⟩
  have hbody : bl (Fin b none ((((⟨#[72, 68]⟩ : ByteArray) ++ by2 b) ++ by2 u), []) K) = [72, 68] ++ (by2l b ++ (by2l u ++ (by2l ((chs l1).length : Int) ++ (byL (chs l1) ++ R)))) := by
    obtain ⟨k', hk'⟩ := day_rl hv hlen.2.1 hnr.2.2 none (((⟨#[72, 68]⟩ : ByteArray) ++ by2 b) ++ by2 u) [] (.inl ⟨rfl, rfl⟩) (kindsS ls)
    unfold Fin
    rw [hKs, hk', if_neg (by simp)]
    have := f4 k' (((⟨#[72, 68]⟩ : ByteArray) ++ by2 b) ++ by2 u) (chs l1)
    rw [← f3] at this
    have hfin : bl (Dc2.dayB (rl nx (some k') ((((⟨#[72, 68]⟩ : ByteArray) ++ by2 b) ++ by2 u), chs l1) (kindsS ls)).1 (rl nx (some k') ((((⟨#[72, 68]⟩ : ByteArray) ++ by2 b) ++ by2 u), chs l1) (kindsS ls)).2) = bl (Dc2.dayB (((⟨#[72, 68]⟩ : ByteArray) ++ by2 b) ++ by2 u) (chs l1)) ++ R := by
      by_cases c2 : (b / 1440 + 1) * 1440 < u
      · rw [if_pos c2] at hnx
        rw [hnx] at this
        exact this
      · have hls := f2 c2
        rw [hls] at this ⊢
        exact this
    rw [hfin, bl_dayB, bl_append, bl_append, bl_by2, bl_by2, hd_bl]
    simp only [List.append_assoc]
  obtain ⟨g1, g2⟩ := begin_get hbody hlen.2.1 (by omega) hend
  have hvl := VD_len hv
  obtain ⟨p1, p2⟩ := dayP_get hlen.2.1 hnr.2.2 hv (by omega) g2
  obtain ⟨q2, p3, p4⟩ := f5 _ _ (l1.map tup) p2
  unfold Dd4.decP
  rw [g1, Option.bind_some]
  dsimp only
  rw [show (30 : Nat) = 29 + 1 from rfl, Dd4.daysP, if_pos (show b < u by omega), hnx, p1, Option.bind_some]
  dsimp only
  rw [List.nil_append, p3, Option.bind_some]
  dsimp only
  rw [if_neg p4, List.map_append]
theorem enc_dec {s : ByteArray} {L : List It} (h : Dd4.decP s = some L) : ∃ ls : List S48, L = ls.map tup ∧ TL none ls ∧ ls.length ≠ 0 ∧ 2 * ls.length ≤ s.size ∧ bl (Dc4.encB ((mergeS ls).map tup)) = bl s := by
  unfold Dd4.decP at h
  obtain ⟨⟨f, u⟩, hb, h⟩ := Option.bind_eq_some_iff.mp h
  obtain ⟨⟨L1, q2⟩, hd, h⟩ := Option.bind_eq_some_iff.mp h
  dsimp only at hd h
  obtain ⟨b1, b2, b3, b4⟩ := begin_inv hb
  split at h
  · cases h
  rename_i hq
  injection h with h
  subst h
  rw [show (30 : Nat) = 29 + 1 from rfl, Dd4.daysP, if_pos b3] at hd
  obtain ⟨⟨L2, q1⟩, hp, hd⟩ := Option.bind_eq_some_iff.mp hd
  dsimp only at hd
  obtain ⟨nx, hnx⟩ : ∃ nx, (if (f / 1440 + 1) * 1440 < u then (f / 1440 + 1) * 1440 else u) = nx := ⟨_, rfl⟩
  rw [hnx] at hp
  have hnr : f < nx ∧ nx ≤ u ∧ nx ≤ (f / 1440 + 1) * 1440 := by
    rw [← hnx]
    split <;> omega
  obtain ⟨l, rfl, hv, hby⟩ := dayP_ok b2 hnr.1 (by omega) hp
  obtain ⟨ls, e1, e2, e3, R, e4, e6, e5⟩ := daysP_ok b4 29 q1 ((f / 1440 + 1) * 1440) _ _ _ (by omega) (by omega) hd
  rw [List.drop_of_length_le (i := q2) (l := bl s) (by rw [bl_length]; omega), List.append_nil] at e4
  have hTT : TL (some f) (l ++ ls) ∧ endS f (l ++ ls) = u := by
    by_cases c2 : (f / 1440 + 1) * 1440 < u
    · rw [if_pos c2] at hnx
      obtain ⟨f1, f2⟩ := e2 c2
      rw [TL_app, lastE_end, end_app, hv.2.2.1, ← hnx]
      exact ⟨⟨hv.2.1, f1⟩, f2⟩
    · rw [if_neg c2] at hnx
      rw [e3 c2, List.append_nil, hnx]
      exact ⟨hv.2.1, hv.2.2.1⟩
  obtain ⟨t1, t2⟩ := TL_none _ _ hTT.1
  have hne : l ++ ls ≠ [] := by simp [hv.1]
  have hbeg := t2 hne
  have hl0 : (l ++ ls).length ≠ 0 := fun e => hne (List.eq_nil_of_length_eq_zero e)
  refine ⟨l ++ ls, by rw [e1, List.nil_append, List.map_append], t1, hl0, ?_, ?_⟩
  · rw [← bl_length, b1, hby, e4]
    simp only [List.length_append, byL_len, show (chs l).length = l.length by simp [chs]]
    omega
  · rw [encB_fin _ t1 hl0, hbeg, hTT.2]
    obtain ⟨k', hk'⟩ := day_rl hv b2 hnr.2.2 none (((⟨#[72, 68]⟩ : ByteArray) ++ by2 f) ++ by2 u) [] (.inl ⟨rfl, rfl⟩) (kindsS ls)
    unfold Fin
    rw [kindsS_app, hk', if_neg (by simp)]
    have := e5 k' (((⟨#[72, 68]⟩ : ByteArray) ++ by2 f) ++ by2 u) (chs l)
    have hfin : bl (Dc2.dayB (rl nx (some k') ((((⟨#[72, 68]⟩ : ByteArray) ++ by2 f) ++ by2 u), chs l) (kindsS ls)).1 (rl nx (some k') ((((⟨#[72, 68]⟩ : ByteArray) ++ by2 f) ++ by2 u), chs l) (kindsS ls)).2) = bl (Dc2.dayB (((⟨#[72, 68]⟩ : ByteArray) ++ by2 f) ++ by2 u) (chs l)) ++ R := by
      by_cases c2 : (f / 1440 + 1) * 1440 < u
      · rw [if_pos c2] at hnx
        rw [hnx] at this
        exact this
      · have hls := e3 c2
        rw [hls] at this ⊢
        exact this
    rw [hfin, bl_dayB, bl_append, bl_append, bl_by2, bl_by2, hd_bl, b1, hby, e4]
    simp only [List.append_assoc]
/-! Decode, the printed function -/
def backS (x : It) : S48 := ⟨x.1, x.2.1, x.2.2⟩
theorem back_tup (l : List S48) : (l.map tup).map disc_Decode.back = l := by
  rw [List.map_map]
  exact (List.map_congr_left (fun x _ => rfl)).trans (List.map_id l)
theorem TL_length (l : List S48) (h : TL none l) : l.length ≤ 40320 := by
  have h1 := TL_some l h
  have h2 := TL_len l h
  have h3 := (TL_kinds l _ h1).2 h2.2.2
  have : ∀ (l : List S48) e, TL (some e) l → (l.length : Int) ≤ endS e l - e := by
    intro l
    induction l with
    | nil => intro e _; simp [endS]
    | cons r l ih =>
      intro e h
      have hz := flt_zero h.1
      have h1 := h.2.1 e rfl
      have := ih _ h.2.2
      show ((l.length + 1 : Nat) : Int) ≤ endS r.f2 l - e
      omega
  have := this l _ h1
  omega
theorem merge_merge (l : List S48) (h : TL none l) : mergeS (mergeS l) = mergeS l := by
  obtain ⟨h1, h2, h3, h4, h5⟩ := own_ok l h
  rw [← norm_of (mergeS l) h1, h2, h3, norm_of l h]
/-- Bytes that are a timeline's. -/
theorem dec_y {s B : ByteArray} (hs : s.size ≤ 1000000) (ho : opn s = (B, 0)) (hB : B.size ≤ 1000000) {ls : List S48} (hd : Dd4.decP B = some (ls.map tup)) (hT : TL none ls) : Ev (fun k => disc_Decode.f k s) (mergeS ls, 0, 0) := by
  unfold disc_Decode.f
  refine Ev.bind (open_f s (by omega)) ?_
  rw [ho]
  simp only [if_true, if_pos hB, hd]
  rw [back_tup]
  refine Ev.bind (normal_f ls (by have := TL_length ls hT; omega)) ?_
  unfold normS
  rw [if_pos ((chk_TL ls 0 none).2 hT)]
  exact Ev.now _
theorem dec_n {s B : ByteArray} (hs : s.size ≤ 1000000) (ho : opn s = (B, 0)) (hB : B.size ≤ 1000000) (hd : Dd4.decP B = none) : Ev (fun k => disc_Decode.f k s) ([], (Dd4.decE B).1, (Dd4.decE B).2) := by
  unfold disc_Decode.f
  refine Ev.bind (open_f s (by omega)) ?_
  rw [ho]
  simp only [if_true, if_pos hB, hd]
  exact Ev.now _
theorem dec_9 {s B : ByteArray} (hs : s.size ≤ 1000000) (ho : opn s = (B, 9)) : Ev (fun k => disc_Decode.f k s) ([], wrap64 ((s.size : Int) - 2), 9) := by
  unfold disc_Decode.f
  refine Ev.bind (open_f s (by omega)) ?_
  rw [ho]
  exact Ev.now _
theorem dec_8 {s B : ByteArray} (hs : s.size ≤ 1000000) (ho : opn s = (B, 8)) : Ev (fun k => disc_Decode.f k s) ([], (s.size : Int), 8) := by
  unfold disc_Decode.f
  refine Ev.bind (open_f s (by omega)) ?_
  rw [ho]
  exact Ev.now _

theorem dayLE_ok {s : ByteArray} {sf st : Int} (n : Nat) : ∀ q out, (Dd2.dayLE s sf st n q out).1 ≠ 0 := by
  induction n with
  | zero => intro q out; show (7 : Int) ≠ 0; decide
  | succ n ih =>
    intro q out
    rw [Dd2.dayLE]
    split
    · unfold Dd2.chgE
      split
      · show (8 : Int) ≠ 0; decide
      · show (7 : Int) ≠ 0; decide
    · exact ih _ _
theorem dayE_ok {s : ByteArray} {q : Nat} {sf st : Int} : (Dd2.dayE s q sf st).1 ≠ 0 := by
  unfold Dd2.dayE
  split
  · show (8 : Int) ≠ 0; decide
  · split
    · show (7 : Int) ≠ 0; decide
    · exact dayLE_ok _ _ _
theorem daysE_ok {s : ByteArray} (d : Nat) : ∀ (q : Nat) (cur to_ : Int), (Dd4.daysE s d q cur to_).2 ≠ 0 := by
  induction d with
  | zero => intro q cur to_; show (7 : Int) ≠ 0; decide
  | succ d ih =>
    intro q cur to_
    rw [Dd4.daysE]
    split
    · split
      · exact dayE_ok
      · exact ih _ _ _
    · show (7 : Int) ≠ 0; decide
theorem decE_ok (s : ByteArray) : (Dd4.decE s).2 ≠ 0 := by
  unfold Dd4.decE
  split
  · exact Dd3.beginE_ok s
  · exact daysE_ok _ _ _ _
theorem opn_inv {s B : ByteArray} (h : opn s = (B, 0)) : s = B ++ by2 (sm B) := by
  unfold opn at h
  split at h
  · simp at h
  · rename_i h2
    split at h
    · rename_i h3
      simp only [Prod.mk.injEq] at h
      obtain ⟨rfl, _⟩ := h
      refine bl_inj ?_
      rw [toList_bl] at h3
      rw [bl_append, h3, bl_extract, bl_extract, List.drop_zero, List.take_of_length_le (i := s.size) (by rw [bl_length]; exact Nat.le_refl _), List.take_append_drop]
    · simp at h
theorem opn_third (s : ByteArray) : (∃ B, opn s = (B, 0)) ∨ opn s = (⟨#[]⟩, 8) ∨ opn s = (⟨#[]⟩, 9) := by
  unfold opn
  split
  · exact .inr (.inl rfl)
  · split
    · exact .inl ⟨_, rfl⟩
    · exact .inr (.inr rfl)
theorem j3_f (s : ByteArray) (hs : s.size ≤ 3000) : Ev (fun k => haulierlaw11_DiscBack.j3 k s) true := by
  refine ev_succ ?_
  simp only [haulierlaw11_DiscBack.j3]
  rcases opn_third s with ⟨B, ho⟩ | ho | ho
  · have hi := opn_inv ho
    have hsz : s.size = B.size + 2 := by
      have := congrArg ByteArray.size hi
      rw [ByteArray.size_append, by2_size] at this
      exact this
    cases hd : Dd4.decP B with
    | none =>
      refine Ev.bind (dec_n (by omega) ho (by omega) hd) ?_
      have he := decE_ok B
      simp only [if_neg he, if_pos (show ((([] : List S48).length : Nat) : Int) = 0 from rfl)]
      exact Ev.bind dalive_f (Ev.now _)
    | some L =>
      obtain ⟨ls, rfl, hT, hl, hl2, hb⟩ := enc_dec hd
      refine Ev.bind (dec_y (by omega) ho (by omega) hd hT) ?_
      simp only [if_true]
      obtain ⟨o1, o2, o3, o4, o5⟩ := own_ok ls hT
      have hml := mergeS_len ls
      refine Ev.bind (enc_f (mergeS ls) (by omega)) ?_
      have hchk : (chkS (mergeS ls) 0 none).2 = 0 := (chk_TL _ 0 none).2 o1
      have hE : encS (mergeS ls) = (s, 0) := by
        unfold encS
        rw [if_pos hchk, if_neg (o5 hl), merge_merge ls hT]
        rw [bl_inj hb, ← hi]
      rw [hE]
      simp only [if_true]
      exact Ev.bind dalive_f (Ev.now _)
  · refine Ev.bind (dec_8 (by omega) ho) ?_
    simp only [if_neg (show ¬ (8 : Int) = 0 by decide), if_pos (show ((([] : List S48).length : Nat) : Int) = 0 from rfl)]
    exact Ev.bind dalive_f (Ev.now _)
  · refine Ev.bind (dec_9 (by omega) ho) ?_
    simp only [if_neg (show ¬ (9 : Int) = 0 by decide), if_pos (show ((([] : List S48).length : Nat) : Int) = 0 from rfl)]
    exact Ev.bind dalive_f (Ev.now _)
theorem bt_app {B X : ByteArray} {i : Nat} (h : i < B.size) : bt (B ++ X) (i : Int) = bt B (i : Int) := by
  have h1 := bt_bl (B ++ X) i (by rw [ByteArray.size_append]; omega)
  have h2 := bt_bl B i h
  rw [bl_append, List.getElem?_append_left (by rw [bl_length]; exact h), h2] at h1
  exact (Option.some.inj h1).symm
theorem j2_f (B s : ByteArray) (hB : B.size ≤ 990000) (hs : s.size ≤ 3000) (a c : Int) (hc : 0 ≤ c ∧ c ≤ 255) (b : Bool) (hb : b = true → 0 ≤ a ∧ a < B.size ∧ c % 255 ≠ bt B a % 255) :
    Ev (fun k => haulierlaw11_DiscBack.j2 k s (B ++ by2 (sm B)) b a c) true := by
  refine ev_succ ?_
  simp only [haulierlaw11_DiscBack.j2]
  by_cases hbt : b = true
  · obtain ⟨h0, hlt, heq⟩ := hb hbt
    obtain ⟨i, rfl⟩ := Int.eq_ofNat_of_zero_le h0
    have hil : i < B.size := by omega
    have hts : (B ++ by2 (sm B)).size = B.size + 2 := by rw [ByteArray.size_append, by2_size]
    have hb2 : bl (strOfNums [c]) = [c] := bl_nums _ (by simp; omega)
    have z1 : ((B ++ by2 (sm B)).extract 0 i).size = i := by rw [size_bl, bl_extract, List.length_drop, List.length_take, bl_length, hts]; omega
    have z2 : (strOfNums [c]).size = 1 := by rw [size_bl, hb2]; rfl
    have z3 : ((B ++ by2 (sm B)).extract (i + 1) (B.size + 2)).size ≤ B.size + 2 - (i + 1) := by rw [size_bl, bl_extract, List.length_drop, List.length_take, bl_length, hts]; omega
    simp only [if_pos hbt, if_pos (show (0 : Int) ≤ (i : Int) by omega), hts, if_pos (show (i : Int) ≤ ((B.size + 2 : Nat) : Int) by omega), w64 (x := (i : Int) + 1) (by omega) (by omega), Option.bind_some, if_pos (show 0 ≤ (i : Int) + 1 by omega), if_pos (show (i : Int) + 1 ≤ ((B.size + 2 : Nat) : Int) by omega), Int.toNat_natCast, show ((i : Int) + 1).toNat = i + 1 by omega]
    rw [z1, z2]
    simp only [if_pos (show i + 1 ≤ 9223372036854775807 by omega)]
    rw [ByteArray.size_append, z1, z2]
    simp only [if_pos (show i + 1 + ((B ++ by2 (sm B)).extract (i + 1) (B.size + 2)).size ≤ 9223372036854775807 by omega)]
    have hcut : bl B = (bl B).take i ++ bt B (i : Int) :: (bl B).drop (i + 1) := by
      have d1 := bl_drop B i hil
      conv => lhs; rw [← List.take_append_drop i (bl B), d1]
    have hu : bl ((B ++ by2 (sm B)).extract 0 i ++ strOfNums [c] ++ (B ++ by2 (sm B)).extract (i + 1) (B.size + 2)) = ((bl B).take i ++ c :: (bl B).drop (i + 1)) ++ by2l (sm B) := by
      rw [bl_append, bl_append, bl_extract, bl_extract, hb2, bl_seal]
      rw [List.take_of_length_le (l := bl B ++ by2l (sm B)) (i := B.size + 2) (by rw [List.length_append, bl_length]; simp [by2l]), List.drop_append_of_le_length (by rw [bl_length]; omega), List.take_append_of_le_length (by rw [bl_length]; omega)]
      simp
    have hop := opn_slip B _ _ hu (by conv => rhs; rw [hcut]
                                      exact slip1 _ _ _ _ heq)
    refine Ev.bind (dec_9 (by rw [ByteArray.size_append, ByteArray.size_append, z1, z2]; omega) hop) ?_
    simp only [if_true, if_pos (show ((([] : List S48).length : Nat) : Int) = 0 from rfl)]
    exact j3_f s hs
  · simp only [if_neg hbt]
    exact j3_f s hs
theorem j1_f (B s : ByteArray) (hB : B.size ≤ 990000) (hs : s.size ≤ 3000) (a c : Int) (hc : 0 ≤ c ∧ c ≤ 255) : Ev (fun k => haulierlaw11_DiscBack.j1 k s (B ++ by2 (sm B)) false a c) true := by
  refine ev_succ ?_
  have hts : (B ++ by2 (sm B)).size = B.size + 2 := by rw [ByteArray.size_append, by2_size]
  simp only [haulierlaw11_DiscBack.j1, Bool.false_eq_true, if_false, hts, w64 (x := ((B.size + 2 : Nat) : Int) - 2) (by omega) (by omega)]
  by_cases h0 : a ≥ 0
  · simp only [if_pos h0]
    by_cases h1 : a < ((B.size + 2 : Nat) : Int) - 2
    · have r1 := bt_range (B ++ by2 (sm B)) a
      simp only [if_pos h1, if_pos (show a < ((B.size + 2 : Nat) : Int) by omega), w64 (x := c) (by omega) (by omega), w64 (x := bt (B ++ by2 (sm B)) a) (by omega) (by omega), tmod_nn hc.1, tmod_nn r1.1]
      refine j2_f B s hB hs a c hc _ (fun hb => ⟨by omega, by omega, ?_⟩)
      obtain ⟨i, rfl⟩ := Int.eq_ofNat_of_zero_le (show 0 ≤ a by omega)
      rw [bt_app (by omega)] at hb
      exact bne_iff_ne.mp hb
    · simp only [if_neg h1]
      exact j2_f B s hB hs a c hc _ (fun hb => by cases hb)
  · simp only [if_neg h0]
    exact j2_f B s hB hs a c hc _ (fun hb => by cases hb)
theorem j0_f (l : List S48) (hl : l.length ≤ 100) (s : ByteArray) (hs : s.size ≤ 3000) (a c : Int) (hc : 0 ≤ c ∧ c ≤ 255) : Ev (fun k => haulierlaw11_DiscBack.j0 k l s false a c) true := by
  refine ev_succ ?_
  simp only [haulierlaw11_DiscBack.j0, Bool.false_eq_true, if_false]
  refine Ev.bind (enc_f l (by omega)) ?_
  unfold encS
  by_cases h : (chkS l 0 none).2 = 0
  · have hT := (chk_TL l 0 none).1 h
    rw [if_pos h]
    by_cases h0 : l.length = 0
    · rw [if_pos h0]
      simp only [if_neg (show ¬ (13 : Int) = 0 by decide)]
      exact j3_f s hs
    · rw [if_neg h0]
      simp only [if_true]
      have hBs := encB_small l hT h0
      obtain ⟨ls, hd, hT2, hk2, hb2⟩ := dec_enc l hT h0
      have hBs2 : (Dc4.encB ((mergeS l).map tup)).size ≤ 990000 := by omega
      have hmm : mergeS ls = mergeS l := by
        rw [← norm_of ls hT2, hk2, hb2, norm_of l hT]
      refine Ev.bind (dec_y (by rw [ByteArray.size_append, by2_size]; omega) (opn_seal _) (by omega) hd hT2) ?_
      refine Ev.bind (rnormal_f l (by omega)) ?_
      simp only [if_true]
      unfold normS
      rw [if_pos h, hmm]
      refine Ev.bind (same_f (mergeS l) (mergeS l) (by have := mergeS_len l; omega)) ?_
      rw [sameS_refl]
      exact j1_f _ s hBs2 hs a c hc
  · rw [if_neg h]
    simp only [if_neg h]
    exact j3_f s hs
theorem DiscBack : haulierlaw11_DiscBack.Pure := by
  intro l s a c h1 h2 h3 ha hc
  have hc0 : 0 ≤ c ∧ c ≤ 255 := by simpa [Lit.wf, IntKind.min, IntKind.max, IntKind.signed, IntKind.bits] using hc
  refine Ev.rounds ?_
  have hbig : ∀ b, b = true → Ev (fun k => haulierlaw11_DiscBack.j0 k l s b a c) true := by
    rintro _ rfl
    refine ev_succ ?_
    simp only [haulierlaw11_DiscBack.j0, if_true]
    exact Ev.bind dalive_f (Ev.now _)
  unfold haulierlaw11_DiscBack.f
  by_cases g1 : (l.length : Int) > 100
  · simp only [if_pos g1]
    exact hbig _ rfl
  simp only [if_neg g1]
  by_cases g2 : (s.size : Int) > 3000
  · exact hbig _ (by simpa using g2)
  · have e : decide ((s.size : Int) > 3000) = false := decide_eq_false g2
    simp only [e]
    exact j0_f l (by omega) s (by omega) a c hc0


end Go.Proofs.Ytjpnfhnmcgejhaa.Pure
