/- Any number as two bytes, and the number at any place of any text of at most 3,000 bytes, is what the reference says: for every number, place and text. -/
import Derived.Test.YtgdgmmojejjlhaaPSum16Numbersx1
set_option linter.unusedVariables false
set_option linter.unusedSimpArgs false
namespace Go.Proofs.Ytgdgmmojejjlhaa.Pure
open Go.RowKit Go.Proofs.Ytgdgmmojejjlhaa.PSum16Numbers Go.Proofs.YtgdgmmojejjlhaaW.PrintWords Go.Proofs.YtgdgmmojejjlhaaW.PrintLast

theorem w64 {x : Int} (h0 : -9223372036854775808 ≤ x) (h1 : x ≤ 9223372036854775807) : wrap64 x = x := by
  unfold wrap64
  omega
theorem tmod_nn {a : Int} (h : 0 ≤ a) (b : Int) : Int.tmod a b = a % b := by
  rw [Int.tmod_eq_emod_of_nonneg h]
theorem tdiv_nn {a : Int} (h : 0 ≤ a) (b : Int) : Int.tdiv a b = a / b := by
  rw [Int.tdiv_eq_ediv_of_nonneg h]
theorem ev_succ {α : Type} {g : Nat → Option α} {r : α} (h : Ev (fun k => g (k + 1)) r) : Ev g r := by
  obtain ⟨K, h⟩ := h
  refine ⟨K + 1, fun n hn => ?_⟩
  obtain ⟨m, rfl⟩ : ∃ m, n = m + 1 := ⟨n - 1, by omega⟩
  exact h m (by omega)

theorem and255 (x : Int) : Go.bits .and .i64 x 255 = x % 256 := by
  unfold Go.bits
  simp only [BitVec.toNat_and, BitVec.toNat_ofInt]
  have h1 : ((255 : Int) % ((2 ^ IntKind.i64.bits : Nat) : Int)).toNat = 2 ^ 8 - 1 := by decide
  have h2 : ((2 ^ IntKind.i64.bits : Nat) : Int) = 18446744073709551616 := by decide
  rw [h1, Nat.and_two_pow_sub_one_eq_mod, IntKind.wrap_i64, h2]
  omega
theorem or8 {b a : Int} (hb0 : 0 ≤ b) (hb1 : b < 256) (ha0 : 0 ≤ a) (ha1 : a < 256) : Go.bits .or .i64 (b * 256) a = b * 256 + a :=
  bits_join .i64 16 (by decide) (fun n h0 h1 => by rw [IntKind.wrap_i64]; omega) 8 (b * 256) a (by omega) (by omega) (by omega) ha0 (by omega) (by omega)

def bl (s : ByteArray) : List Int := s.data.toList.map fun c => (c.toNat : Int)
theorem bl_length (s : ByteArray) : (bl s).length = s.size := by simp [bl]
theorem bl_range (s : ByteArray) : ∀ x ∈ bl s, 0 ≤ x ∧ x ≤ 255 := by
  intro x hx
  simp only [bl, List.mem_map] at hx
  obtain ⟨c, _, rfl⟩ := hx
  have := c.toNat_lt
  omega
theorem bt_bl (s : ByteArray) (i : Nat) (h : i < s.size) : (bl s)[i]? = some (bt s (i : Int)) := by
  unfold bt
  rw [dif_pos (by simpa using h)]
  simp only [bl, List.getElem?_map, Int.toNat_natCast]
  rw [List.getElem?_eq_getElem (by simpa using h)]
  rfl
theorem bl_drop (s : ByteArray) (i : Nat) (h : i < s.size) : (bl s).drop i = bt s (i : Int) :: (bl s).drop (i + 1) := by
  have h1 := bt_bl s i h
  obtain ⟨h2, h3⟩ := List.getElem?_eq_some_iff.1 h1
  rw [List.drop_eq_getElem_cons h2, h3]
theorem bl_append (s t : ByteArray) : bl (s ++ t) = bl s ++ bl t := by simp [bl, ByteArray.data_append]
theorem toList_inj {s t : ByteArray} (h : s.toList = t.toList) : s = t := by
  rw [ByteArray.toList_eq, ByteArray.toList_eq] at h
  cases s; cases t
  simp at h
  rw [h]
theorem bl_inj {s t : ByteArray} (h : bl s = bl t) : s = t := by
  apply toList_inj
  rw [ByteArray.toList_eq, ByteArray.toList_eq]
  unfold bl at h
  refine List.map_inj_right ?_ |>.1 h
  intro x y hxy
  exact UInt8.toNat_inj.1 (by omega)
theorem toList_bl {s t : ByteArray} : s.toList = t.toList ↔ bl s = bl t := by
  constructor
  · intro h; rw [toList_inj h]
  · intro h; rw [bl_inj h]
theorem bl_nums (xs : List Int) (h : ∀ x ∈ xs, 0 ≤ x ∧ x ≤ 255) : bl (strOfNums xs) = xs := by
  unfold bl strOfNums
  simp only [List.map_map]
  conv => rhs; rw [← List.map_id xs]
  apply List.map_congr_left
  intro x hx
  have := h x hx
  simp only [Function.comp]
  rw [UInt8.toNat_ofNat']
  simp
  omega
theorem bl_extract (s : ByteArray) (i j : Nat) : bl (s.extract i j) = ((bl s).take j).drop i := by
  simp [bl, ByteArray.data_extract, List.map_drop, List.map_take, List.drop_take]
theorem size_bl (s : ByteArray) : s.size = (bl s).length := (bl_length s).symm

def stF (p : Int × Int) (c : Int) : Int × Int := ((p.1 + c) % 255, (p.2 + (p.1 + c) % 255) % 255)
def fl (p : Int × Int) (l : List Int) : Int × Int := l.foldl stF p
def fin (p : Int × Int) : Int := p.2 * 256 + p.1
def Lo (p : Int × Int) : Prop := 0 ≤ p.1 ∧ p.1 < 255 ∧ 0 ≤ p.2 ∧ p.2 < 255
theorem stF_lo (p : Int × Int) (c : Int) : Lo (stF p c) := by
  unfold Lo stF
  simp only
  omega
theorem fl_lo (l : List Int) : ∀ p, Lo p → Lo (fl p l) := by
  induction l with
  | nil => intro p h; exact h
  | cons c l ih => intro p h; exact ih _ (stF_lo p c)
theorem fl_app (p : Int × Int) (l m : List Int) : fl p (l ++ m) = fl (fl p l) m := by simp [fl]
def begF (n : Int) : Int × Int := (n % 256 % 255, n / 256 % 256 % 255)
theorem begF_lo (n : Int) : Lo (begF n) := by
  unfold Lo begF
  simp only
  omega
def sm (s : ByteArray) : Int := fin (fl (0, 0) (bl s))
theorem lo0 : Lo (0, 0) := by unfold Lo; simp
theorem fin_range {p : Int × Int} (h : Lo p) : 0 ≤ fin p ∧ fin p ≤ 65278 := by
  unfold Lo at h
  unfold fin
  omega
theorem begF_fin {p : Int × Int} (h : Lo p) : begF (fin p) = p := by
  obtain ⟨a, b⟩ := p
  unfold Lo at h
  unfold begF fin
  simp only at h ⊢
  refine Prod.ext ?_ ?_ <;> simp only <;> omega
theorem add_l0 (s : ByteArray) (hs : s.size ≤ 140737488351232) (d : Nat) : ∀ (i : Nat) (a b : Int), i + d = s.size → Lo (a, b) →
    Ev (fun k => sum16_Add.l0 k s a b (s.size : Int) (i : Int)) (fin (fl (a, b) ((bl s).drop i))) := by
  induction d with
  | zero =>
    intro i a b hi hl
    rw [List.drop_of_length_le (by rw [bl_length]; omega)]
    unfold Lo at hl
    refine Ev.step (f := fun _ => some (b * 256 + a)) (fun k => ?_) (Ev.now _)
    simp only [sum16_Add.l0]
    rw [if_neg (by omega), w64 (by omega) (by omega), or8 (by omega) (by omega) (by omega) (by omega)]
  | succ d ih =>
    intro i a b hi hl
    have hr := bt_range s i
    have hl2 := stF_lo (a, b) (bt s i)
    have h := ih (i + 1) _ _ (by omega) hl2
    unfold Lo at hl
    rw [bl_drop s i (by omega)]
    refine Ev.step (fun k => ?_) h
    simp only [sum16_Add.l0]
    rw [if_pos (by omega), if_pos (by omega), if_pos (by omega)]
    rw [w64 (x := bt s i) (by omega) (by omega), w64 (x := a + bt s i) (by omega) (by omega), tmod_nn (by omega), w64 (x := b + (a + bt s i) % 255) (by omega) (by omega), tmod_nn (by omega), w64 (x := (i : Int) + 1) (by omega) (by omega)]
    rfl
theorem add_f (n : Int) (s : ByteArray) (hs : s.size ≤ 140737488351232) : Ev (fun k => sum16_Add.f k n s) (fin (fl (begF n) (bl s))) := by
  have h := add_l0 s hs s.size 0 _ _ (by omega) (begF_lo n)
  refine Ev.congr (fun k => ?_) h
  unfold sum16_Add.f
  rw [and255, and255, tmod_nn (by omega), tmod_nn (by omega)]
  rfl
theorem sum_f (s : ByteArray) (hs : s.size ≤ 140737488351232) : Ev (fun k => sum16_Sum.f k s) (sm s) := by
  unfold sum16_Sum.f
  exact Ev.bind (add_f 0 s hs) (Ev.now _)
theorem alive_f : Ev (fun k => haulierlaw05_alive.f k) true := by
  unfold haulierlaw05_alive.f
  refine Ev.bind (sum_f _ (by decide)) ?_
  rw [show sm (⟨#[97, 98]⟩ : ByteArray) = 9667 by decide]
  simp only [if_true]
  refine Ev.bind (sum_f _ (by decide)) ?_
  rw [show sm (⟨#[]⟩ : ByteArray) = 0 by decide]
  exact Ev.now _

def by2l (n : Int) : List Int := [n / 256 % 256, n % 256]
def by2 (n : Int) : ByteArray := strOfNums (by2l n)
theorem bl_by2 (n : Int) : bl (by2 n) = by2l n := by
  refine bl_nums _ ?_
  intro x hx
  simp only [by2l, List.mem_cons, List.not_mem_nil, or_false] at hx
  omega
theorem by2_size (n : Int) : (by2 n).size = 2 := by rw [size_bl, bl_by2]; rfl
theorem by2l_inj {p q : Int × Int} (hp : Lo p) (hq : Lo q) (h : by2l (fin p) = by2l (fin q)) : p = q := by
  simp only [by2l, List.cons.injEq, and_true] at h
  obtain ⟨a, b⟩ := p
  obtain ⟨c, d⟩ := q
  unfold Lo at hp hq
  unfold fin at h
  simp only at hp hq h
  refine Prod.ext ?_ ?_ <;> simp only <;> omega
theorem bytes_f (n : Int) : sum16_bytes.f n = some (by2 n) := rfl

theorem rput_f (n : Int) (h : 0 ≤ n) (h1 : n ≤ 9223372036854775807) : haulierref05_Put.f n = some (by2 n) := by
  unfold haulierref05_Put.f by2 by2l
  rw [tdiv_nn h, tmod_nn h, w64 (by omega) (by omega), show n % 256 % 256 = n % 256 by omega]
theorem sm_range (s : ByteArray) : 0 ≤ sm s ∧ sm s ≤ 65278 := fin_range (fl_lo _ _ lo0)

theorem put_f (n : Int) : sum16_Put.f n = some (if n < 0 ∨ n > 65535 then (⟨#[]⟩, 4) else (by2 n, 0)) := by
  unfold sum16_Put.f
  split
  · rw [if_pos (by omega)]
  · split
    · rw [if_pos (by omega)]
    · rw [if_neg (by omega), bytes_f]
      rfl
def tk (s : ByteArray) (a : Int) : Int × Int := if a < 0 then (0, 1) else if a > (s.size : Int) - 2 then (0, 8) else (bt s a * 256 + bt s (a + 1), 0)
theorem take_f (s : ByteArray) (a : Int) (hs : s.size ≤ 140737488351232) : sum16_Take.f s a = some (tk s a) := by
  unfold sum16_Take.f tk
  have r1 := bt_range s a
  have r2 := bt_range s (a + 1)
  rw [w64 (x := (s.size : Int) - 2) (by omega) (by omega)]
  split
  · rfl
  · split
    · rfl
    · rw [w64 (x := a + 1) (by omega) (by omega), w64 (x := bt s a) (by omega) (by omega), w64 (x := bt s (a + 1)) (by omega) (by omega), w64 (x := bt s a * 256) (by omega) (by omega)]
      rw [if_pos (by omega), if_pos (by omega), if_pos (by omega), if_pos (by omega), or8 r1.1 (by omega) r2.1 (by omega)]
theorem rtake_f (s : ByteArray) (a : Int) (hs : s.size ≤ 140737488351232) : haulierref05_Take.f s a = some (tk s a) := by
  unfold haulierref05_Take.f tk
  have r1 := bt_range s a
  have r2 := bt_range s (a + 1)
  rw [w64 (x := (s.size : Int) - 2) (by omega) (by omega)]
  split
  · rfl
  · split
    · rfl
    · rw [w64 (x := a + 1) (by omega) (by omega), w64 (x := bt s a) (by omega) (by omega), w64 (x := bt s (a + 1)) (by omega) (by omega), w64 (x := 256 * bt s a) (by omega) (by omega), w64 (x := 256 * bt s a + bt s (a + 1)) (by omega) (by omega)]
      rw [if_pos (by omega), if_pos (by omega), if_pos (by omega), if_pos (by omega), Int.mul_comm]
theorem empty_list : (⟨#[]⟩ : ByteArray).toList = ([] : List UInt8) := by rw [ByteArray.toList_eq]
theorem tk_by2 (n : Int) (h0 : 0 ≤ n) (h1 : n ≤ 65535) : tk (by2 n) 0 = (n, 0) := by
  have h := bl_by2 n
  have hz := by2_size n
  have e0 := bt_bl (by2 n) 0 (by omega)
  have e1 := bt_bl (by2 n) 1 (by omega)
  rw [h] at e0 e1
  simp only [by2l, List.getElem?_cons_zero, List.getElem?_cons_succ, Option.some.injEq] at e0 e1
  unfold tk
  rw [if_neg (by omega), if_neg (by omega)]
  refine Prod.ext ?_ rfl
  have e2 : bt (by2 n) (0 + 1) = n % 256 := e1.symm
  have e3 : bt (by2 n) 0 = n / 256 % 256 := e0.symm
  simp only [e2, e3]
  omega
theorem Sum16Numbers : haulierlaw05_Sum16Numbers.Pure := by
  intro n a s hn ha hs
  have hn0 : -9223372036854775808 ≤ n ∧ n ≤ 9223372036854775807 := by simpa [Lit.wf, IntKind.min, IntKind.max, IntKind.signed, IntKind.bits] using hn
  refine Ev.rounds ?_
  unfold haulierlaw05_Sum16Numbers.f
  by_cases h1 : (s.size : Int) > 3000
  · simp only [if_pos h1]; exact Ev.bind alive_f (Ev.now _)
  simp only [if_neg h1, put_f, take_f s a hs, rtake_f s a hs, Option.bind_some]
  by_cases hb : n < 0 ∨ n > 65535
  · simp only [if_pos hb]
    have hj : ∀ b, b = true → Ev (fun k => haulierlaw05_Sum16Numbers.j0 k n ⟨#[]⟩ 4 (tk s a).1 (tk s a).2 (tk s a).1 (tk s a).2 b) true := by
      rintro _ rfl
      refine ev_succ ?_
      simp only [haulierlaw05_Sum16Numbers.j0, if_true, empty_list]
      exact Ev.bind alive_f (Ev.now _)
    by_cases hn1 : n < 0
    · simp only [if_pos hn1]; exact hj _ rfl
    · simp only [if_neg hn1]; exact hj _ (by simp; omega)
  · simp only [if_neg hb, if_neg (show ¬ n < 0 by omega)]
    refine ev_succ ?_
    simp only [haulierlaw05_Sum16Numbers.j0, decide_eq_true_eq, if_neg (show ¬ n > 65535 by omega), take_f (by2 n) 0 (by rw [by2_size]; omega), rput_f n (by omega) (by omega), Option.bind_some, tk_by2 n (by omega) (by omega), if_true]
    exact Ev.bind alive_f (Ev.now _)


end Go.Proofs.Ytgdgmmojejjlhaa.Pure
