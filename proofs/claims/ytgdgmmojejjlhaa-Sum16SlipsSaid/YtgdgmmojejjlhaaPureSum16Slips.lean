/- A sealed text of at most 3,000 bytes of which one byte is another one modulo 255, or two neighbours unlike modulo 255 changed places, is not opened: for every text, place and byte. -/
import Derived.Test.YtgdgmmojejjlhaaMSum16Slipsx2
set_option linter.unusedVariables false
set_option linter.unusedSimpArgs false
namespace Go.Proofs.Ytgdgmmojejjlhaa.Pure
open Go.RowKit Go.Proofs.Ytgdgmmojejjlhaa.MSum16Slips Go.Proofs.YtgdgmmojejjlhaaW.PrintWords Go.Proofs.YtgdgmmojejjlhaaW.PrintLast

theorem w64 {x : Int} (h0 : -9223372036854775808 ≤ x) (h1 : x ≤ 9223372036854775807) : wrap64 x = x := by
  unfold wrap64
  omega
theorem tmod_nn {a : Int} (h : 0 ≤ a) (b : Int) : Int.tmod a b = a % b := by
  rw [Int.tmod_eq_emod_of_nonneg h]
theorem tdiv_nn {a : Int} (h : 0 ≤ a) (b : Int) : Int.tdiv a b = a / b := by
  rw [Int.tdiv_eq_ediv_of_nonneg h]
theorem ev_succ {α : Type} {g : Nat → Option α} {r : α} (h : Ev (fun k => g (k + 1)) r) : Ev g r := by
  obtain ⟨K, h⟩ := h
  refine ⟨K + 1, fun n hn => ?_⟩
  obtain ⟨m, rfl⟩ : ∃ m, n = m + 1 := ⟨n - 1, by omega⟩
  exact h m (by omega)

theorem and255 (x : Int) : Go.bits .and .i64 x 255 = x % 256 := by
  unfold Go.bits
  simp only [BitVec.toNat_and, BitVec.toNat_ofInt]
  have h1 : ((255 : Int) % ((2 ^ IntKind.i64.bits : Nat) : Int)).toNat = 2 ^ 8 - 1 := by decide
  have h2 : ((2 ^ IntKind.i64.bits : Nat) : Int) = 18446744073709551616 := by decide
  rw [h1, Nat.and_two_pow_sub_one_eq_mod, IntKind.wrap_i64, h2]
  omega
theorem or8 {b a : Int} (hb0 : 0 ≤ b) (hb1 : b < 256) (ha0 : 0 ≤ a) (ha1 : a < 256) : Go.bits .or .i64 (b * 256) a = b * 256 + a :=
  bits_join .i64 16 (by decide) (fun n h0 h1 => by rw [IntKind.wrap_i64]; omega) 8 (b * 256) a (by omega) (by omega) (by omega) ha0 (by omega) (by omega)

def bl (s : ByteArray) : List Int := s.data.toList.map fun c => (c.toNat : Int)
theorem bl_length (s : ByteArray) : (bl s).length = s.size := by simp [bl]
theorem bl_range (s : ByteArray) : ∀ x ∈ bl s, 0 ≤ x ∧ x ≤ 255 := by
  intro x hx
  simp only [bl, List.mem_map] at hx
  obtain ⟨c, _, rfl⟩ := hx
  have := c.toNat_lt
  omega
theorem bt_bl (s : ByteArray) (i : Nat) (h : i < s.size) : (bl s)[i]? = some (bt s (i : Int)) := by
  unfold bt
  rw [dif_pos (by simpa using h)]
  simp only [bl, List.getElem?_map, Int.toNat_natCast]
  rw [List.getElem?_eq_getElem (by simpa using h)]
  rfl
theorem bl_drop (s : ByteArray) (i : Nat) (h : i < s.size) : (bl s).drop i = bt s (i : Int) :: (bl s).drop (i + 1) := by
  have h1 := bt_bl s i h
  obtain ⟨h2, h3⟩ := List.getElem?_eq_some_iff.1 h1
  rw [List.drop_eq_getElem_cons h2, h3]
theorem bl_append (s t : ByteArray) : bl (s ++ t) = bl s ++ bl t := by simp [bl, ByteArray.data_append]
theorem toList_inj {s t : ByteArray} (h : s.toList = t.toList) : s = t := by
  rw [ByteArray.toList_eq, ByteArray.toList_eq] at h
  cases s; cases t
  simp at h
  rw [h]
theorem bl_inj {s t : ByteArray} (h : bl s = bl t) : s = t := by
  apply toList_inj
  rw [ByteArray.toList_eq, ByteArray.toList_eq]
  unfold bl at h
  refine List.map_inj_right ?_ |>.1 h
  intro x y hxy
  exact UInt8.toNat_inj.1 (by omega)
theorem toList_bl {s t : ByteArray} : s.toList = t.toList ↔ bl s = bl t := by
  constructor
  · intro h; rw [toList_inj h]
  · intro h; rw [bl_inj h]
theorem bl_nums (xs : List Int) (h : ∀ x ∈ xs, 0 ≤ x ∧ x ≤ 255) : bl (strOfNums xs) = xs := by
  unfold bl strOfNums
  simp only [List.map_map]
  conv => rhs; rw [← List.map_id xs]
  apply List.map_congr_left
  intro x hx
  have := h x hx
  simp only [Function.comp]
  rw [UInt8.toNat_ofNat']
  simp
  omega
theorem bl_extract (s : ByteArray) (i j : Nat) : bl (s.extract i j) = ((bl s).take j).drop i := by
  simp [bl, ByteArray.data_extract, List.map_drop, List.map_take, List.drop_take]
theorem size_bl (s : ByteArray) : s.size = (bl s).length := (bl_length s).symm

def stF (p : Int × Int) (c : Int) : Int × Int := ((p.1 + c) % 255, (p.2 + (p.1 + c) % 255) % 255)
def fl (p : Int × Int) (l : List Int) : Int × Int := l.foldl stF p
def fin (p : Int × Int) : Int := p.2 * 256 + p.1
def Lo (p : Int × Int) : Prop := 0 ≤ p.1 ∧ p.1 < 255 ∧ 0 ≤ p.2 ∧ p.2 < 255
theorem stF_lo (p : Int × Int) (c : Int) : Lo (stF p c) := by
  unfold Lo stF
  simp only
  omega
theorem fl_lo (l : List Int) : ∀ p, Lo p → Lo (fl p l) := by
  induction l with
  | nil => intro p h; exact h
  | cons c l ih => intro p h; exact ih _ (stF_lo p c)
theorem fl_app (p : Int × Int) (l m : List Int) : fl p (l ++ m) = fl (fl p l) m := by simp [fl]
def begF (n : Int) : Int × Int := (n % 256 % 255, n / 256 % 256 % 255)
theorem begF_lo (n : Int) : Lo (begF n) := by
  unfold Lo begF
  simp only
  omega
def sm (s : ByteArray) : Int := fin (fl (0, 0) (bl s))
theorem lo0 : Lo (0, 0) := by unfold Lo; simp
theorem fin_range {p : Int × Int} (h : Lo p) : 0 ≤ fin p ∧ fin p ≤ 65278 := by
  unfold Lo at h
  unfold fin
  omega
theorem begF_fin {p : Int × Int} (h : Lo p) : begF (fin p) = p := by
  obtain ⟨a, b⟩ := p
  unfold Lo at h
  unfold begF fin
  simp only at h ⊢
  refine Prod.ext ?_ ?_ <;> simp only <;> omega
theorem add_l0 (s : ByteArray) (hs : s.size ≤ 140737488351232) (d : Nat) : ∀ (i : Nat) (a b : Int), i + d = s.size → Lo (a, b) →
    Ev (fun k => sum16_Add.l0 k s a b (s.size : Int) (i : Int)) (fin (fl (a, b) ((bl s).drop i))) := by
  induction d with
  | zero =>
    intro i a b hi hl
    rw [List.drop_of_length_le (by rw [bl_length]; omega)]
    unfold Lo at hl
    refine Ev.step (f := fun _ => some (b * 256 + a)) (fun k => ?_) (Ev.now _)
    simp only [sum16_Add.l0]
    rw [if_neg (by omega), w64 (by omega) (by omega), or8 (by omega) (by omega) (by omega) (by omega)]
  | succ d ih =>
    intro i a b hi hl
    have hr := bt_range s i
    have hl2 := stF_lo (a, b) (bt s i)
    have h := ih (i + 1) _ _ (by omega) hl2
    unfold Lo at hl
    rw [bl_drop s i (by omega)]
    refine Ev.step (fun k => ?_) h
    simp only [sum16_Add.l0]
    rw [if_pos (by omega), if_pos (by omega), if_pos (by omega)]
    rw [w64 (x := bt s i) (by omega) (by omega), w64 (x := a + bt s i) (by omega) (by omega), tmod_nn (by omega), w64 (x := b + (a + bt s i) % 255) (by omega) (by omega), tmod_nn (by omega), w64 (x := (i : Int) + 1) (by omega) (by omega)]
    rfl
theorem add_f (n : Int) (s : ByteArray) (hs : s.size ≤ 140737488351232) : Ev (fun k => sum16_Add.f k n s) (fin (fl (begF n) (bl s))) := by
  have h := add_l0 s hs s.size 0 _ _ (by omega) (begF_lo n)
  refine Ev.congr (fun k => ?_) h
  unfold sum16_Add.f
  rw [and255, and255, tmod_nn (by omega), tmod_nn (by omega)]
  rfl
theorem sum_f (s : ByteArray) (hs : s.size ≤ 140737488351232) : Ev (fun k => sum16_Sum.f k s) (sm s) := by
  unfold sum16_Sum.f
  exact Ev.bind (add_f 0 s hs) (Ev.now _)
theorem alive_f : Ev (fun k => haulierlaw05_alive.f k) true := by
  unfold haulierlaw05_alive.f
  refine Ev.bind (sum_f _ (by decide)) ?_
  rw [show sm (⟨#[97, 98]⟩ : ByteArray) = 9667 by decide]
  simp only [if_true]
  refine Ev.bind (sum_f _ (by decide)) ?_
  rw [show sm (⟨#[]⟩ : ByteArray) = 0 by decide]
  exact Ev.now _

def by2l (n : Int) : List Int := [n / 256 % 256, n % 256]
def by2 (n : Int) : ByteArray := strOfNums (by2l n)
theorem bl_by2 (n : Int) : bl (by2 n) = by2l n := by
  refine bl_nums _ ?_
  intro x hx
  simp only [by2l, List.mem_cons, List.not_mem_nil, or_false] at hx
  omega
theorem by2_size (n : Int) : (by2 n).size = 2 := by rw [size_bl, bl_by2]; rfl
theorem by2l_inj {p q : Int × Int} (hp : Lo p) (hq : Lo q) (h : by2l (fin p) = by2l (fin q)) : p = q := by
  simp only [by2l, List.cons.injEq, and_true] at h
  obtain ⟨a, b⟩ := p
  obtain ⟨c, d⟩ := q
  unfold Lo at hp hq
  unfold fin at h
  simp only at hp hq h
  refine Prod.ext ?_ ?_ <;> simp only <;> omega
theorem bytes_f (n : Int) : sum16_bytes.f n = some (by2 n) := rfl
def opn (s : ByteArray) : ByteArray × Int :=
  if s.size < 2 then (⟨#[]⟩, 8) else if (by2 (sm (s.extract 0 (s.size - 2)))).toList = (s.extract (s.size - 2) s.size).toList then (s.extract 0 (s.size - 2), 0) else (⟨#[]⟩, 9)
theorem ext_size (s : ByteArray) (i j : Nat) (hj : j ≤ s.size) : (s.extract i j).size ≤ s.size := by
  rw [size_bl, bl_extract, List.length_drop, List.length_take, bl_length]
  omega
theorem open_f (s : ByteArray) (hs : s.size ≤ 140737488351232) : Ev (fun k => sum16_Open.f k s) (opn s) := by
  unfold sum16_Open.f
  rw [w64 (x := (s.size : Int) - 2) (by omega) (by omega)]
  unfold opn
  by_cases h : s.size < 2
  · simp only [if_pos h, if_pos (show (s.size : Int) - 2 < 0 by omega)]
    exact Ev.now _
  · simp only [if_neg h, if_neg (show ¬ (s.size : Int) - 2 < 0 by omega), if_pos (show 0 ≤ (s.size : Int) - 2 by omega), if_pos (show (s.size : Int) - 2 ≤ (s.size : Int) by omega), show ((s.size : Int) - 2).toNat = s.size - 2 by omega]
    have := ext_size s 0 (s.size - 2) (by omega)
    refine Ev.bind (sum_f _ (by omega)) ?_
    simp only [bytes_f, Option.bind_some]
    split <;> exact Ev.now _
theorem bl_seal (s : ByteArray) : bl (s ++ by2 (sm s)) = bl s ++ by2l (sm s) := by rw [bl_append, bl_by2]
theorem seal_f (s : ByteArray) (hs : s.size ≤ 140737488351232) : Ev (fun k => sum16_Seal.f k s) (s ++ by2 (sm s)) := by
  unfold sum16_Seal.f
  refine Ev.bind (sum_f s hs) ?_
  simp only [bytes_f, Option.bind_some, by2_size]
  simp only [if_pos (show s.size + 2 ≤ 9223372036854775807 by omega)]
  exact Ev.now _
theorem opn_cases (u : ByteArray) (P : List Int) (n : Int) (h : bl u = P ++ by2l n) :
    opn u = if by2l (fin (fl (0, 0) P)) = by2l n then (u.extract 0 (u.size - 2), 0) else (⟨#[]⟩, 9) := by
  have hl : u.size = P.length + 2 := by rw [size_bl, h]; simp [by2l]
  unfold opn
  rw [if_neg (by omega)]
  simp only [toList_bl, bl_by2, bl_extract]
  have h1 : sm (u.extract 0 (u.size - 2)) = fin (fl (0, 0) P) := by
    unfold sm
    rw [bl_extract, h, hl]
    simp
  have h2 : ((bl u).take u.size).drop (u.size - 2) = by2l n := by
    rw [List.take_of_length_le (by rw [bl_length]; omega), h, hl]
    simp
  simp only [h1, h2]
theorem opn_seal (s : ByteArray) : opn (s ++ by2 (sm s)) = (s, 0) := by
  rw [opn_cases _ (bl s) (sm s) (bl_seal s), if_pos (show by2l (fin (fl (0, 0) (bl s))) = by2l (sm s) from rfl)]
  congr 1
  apply bl_inj
  rw [bl_extract, size_bl, bl_seal]
  simp [by2l]

theorem fl_ne1 (l : List Int) : ∀ p q, Lo p → Lo q → p.1 ≠ q.1 → (fl p l).1 ≠ (fl q l).1 := by
  induction l with
  | nil => intro p q _ _ h; exact h
  | cons c l ih =>
    intro p q hp hq h
    refine ih _ _ (stF_lo _ _) (stF_lo _ _) ?_
    unfold Lo at hp hq
    simp only [stF]
    omega
theorem fl_ne2 (l : List Int) : ∀ p q, Lo p → Lo q → p.1 = q.1 → p.2 ≠ q.2 → (fl p l).2 ≠ (fl q l).2 := by
  induction l with
  | nil => intro p q _ _ _ h; exact h
  | cons c l ih =>
    intro p q hp hq h1 h
    refine ih _ _ (stF_lo _ _) (stF_lo _ _) ?_ ?_
    · simp only [stF, h1]
    · unfold Lo at hp hq
      simp only [stF, h1]
      omega
theorem slip1 (A B : List Int) (x c : Int) (h : c % 255 ≠ x % 255) : fl (0, 0) (A ++ c :: B) ≠ fl (0, 0) (A ++ x :: B) := by
  rw [fl_app, fl_app]
  intro he
  refine fl_ne1 B (stF (fl (0, 0) A) c) (stF (fl (0, 0) A) x) (stF_lo _ _) (stF_lo _ _) ?_ (congrArg Prod.fst he)
  simp only [stF]
  omega
theorem slip2 (A B : List Int) (x y : Int) (h : x % 255 ≠ y % 255) : fl (0, 0) (A ++ y :: x :: B) ≠ fl (0, 0) (A ++ x :: y :: B) := by
  rw [fl_app, fl_app]
  intro he
  have hp := fl_lo A (0, 0) lo0
  refine fl_ne2 B (stF (stF (fl (0, 0) A) y) x) (stF (stF (fl (0, 0) A) x) y) (stF_lo _ _) (stF_lo _ _) ?_ ?_ (congrArg Prod.snd he)
  · simp only [stF]
    omega
  · simp only [stF]
    omega
theorem opn_slip (s u : ByteArray) (Q : List Int) (hu : bl u = Q ++ by2l (sm s)) (hne : fl (0, 0) Q ≠ fl (0, 0) (bl s)) : opn u = (⟨#[]⟩, 9) := by
  rw [opn_cases u Q _ hu, if_neg]
  intro he
  exact hne (by2l_inj (fl_lo _ _ lo0) (fl_lo _ _ lo0) he)
theorem empty_list : (⟨#[]⟩ : ByteArray).toList = ([] : List UInt8) := by rw [ByteArray.toList_eq]
theorem j2_f (s : ByteArray) (at_ : Nat) (hs : s.size ≤ 3000) (h : at_ < s.size) (b : Bool) (hb : b = true → at_ + 1 < s.size ∧ bt s at_ % 255 ≠ bt s ((at_ : Int) + 1) % 255) :
    Ev (fun k => haulierlaw05_Sum16Slips.j2 k s (at_ : Int) (s ++ by2 (sm s)) b) true := by
  refine ev_succ ?_
  simp only [haulierlaw05_Sum16Slips.j2]
  by_cases hbt : b = true
  · obtain ⟨hlt, hne⟩ := hb hbt
    have hts : (s ++ by2 (sm s)).size = s.size + 2 := by rw [ByteArray.size_append, by2_size]
    have r1 := bt_range s at_
    have r2 := bt_range s ((at_ : Int) + 1)
    have hb2 : bl (strOfNums [bt s ((at_ : Int) + 1), bt s at_]) = [bt s ((at_ : Int) + 1), bt s at_] := bl_nums _ (by simp; omega)
    have z1 : (s.extract 0 at_).size = at_ := by rw [size_bl, bl_extract, List.length_drop, List.length_take, bl_length]; omega
    have z2 : (strOfNums [bt s ((at_ : Int) + 1), bt s at_]).size = 2 := by rw [size_bl, hb2]; rfl
    have z3 : ((s ++ by2 (sm s)).extract (at_ + 2) (s.size + 2)).size ≤ s.size + 2 := by
      have := ext_size (s ++ by2 (sm s)) (at_ + 2) (s.size + 2) (by omega)
      omega
    simp only [if_pos hbt, if_pos (show (0 : Int) ≤ at_ by omega), if_pos (show (at_ : Int) ≤ s.size by omega), w64 (x := (at_ : Int) + 1) (by omega) (by omega), w64 (x := (at_ : Int) + 2) (by omega) (by omega), if_pos (show 0 ≤ (at_ : Int) + 1 by omega), if_pos (show (at_ : Int) + 1 < s.size by omega), if_pos (show (at_ : Int) < s.size by omega), Option.bind_some, if_pos (show 0 ≤ (at_ : Int) + 2 by omega), hts, if_pos (show (at_ : Int) + 2 ≤ ((s.size + 2 : Nat) : Int) by omega), Int.toNat_natCast, show ((at_ : Int) + 2).toNat = at_ + 2 by omega]
    rw [z1, z2]
    simp only [if_pos (show at_ + 2 ≤ 9223372036854775807 by omega)]
    rw [ByteArray.size_append, z1, z2]
    simp only [if_pos (show at_ + 2 + ((s ++ by2 (sm s)).extract (at_ + 2) (s.size + 2)).size ≤ 9223372036854775807 by omega)]
    refine Ev.bind (open_f _ ?_) ?_
    · rw [ByteArray.size_append, ByteArray.size_append, z1, z2]
      omega
    · have hcut : bl s = (bl s).take at_ ++ bt s at_ :: bt s ((at_ : Int) + 1) :: (bl s).drop (at_ + 2) := by
        have d1 := bl_drop s at_ h
        have d2 := bl_drop s (at_ + 1) hlt
        rw [d2] at d1
        conv => lhs; rw [← List.take_append_drop at_ (bl s), d1]
        simp
      have hu : bl (s.extract 0 at_ ++ strOfNums [bt s ((at_ : Int) + 1), bt s at_] ++ (s ++ by2 (sm s)).extract (at_ + 2) (s.size + 2)) = ((bl s).take at_ ++ bt s ((at_ : Int) + 1) :: bt s at_ :: (bl s).drop (at_ + 2)) ++ by2l (sm s) := by
        rw [bl_append, bl_append, bl_extract, bl_extract, hb2, bl_seal]
        rw [List.take_of_length_le (l := bl s ++ by2l (sm s)) (by rw [List.length_append, bl_length]; simp [by2l]), List.drop_append_of_le_length (by rw [bl_length]; omega)]
        simp
      rw [opn_slip s _ _ hu]
      · simp only [empty_list, if_true]
        exact Ev.bind alive_f (Ev.now _)
      · conv => rhs; rw [hcut]
        exact slip2 _ _ _ _ hne
  · simp only [if_neg hbt]
    exact Ev.bind alive_f (Ev.now _)
theorem j1_f (s : ByteArray) (at_ : Nat) (hs : s.size ≤ 3000) (h : at_ < s.size) : Ev (fun k => haulierlaw05_Sum16Slips.j1 k s (at_ : Int) (s ++ by2 (sm s))) true := by
  refine ev_succ ?_
  simp only [haulierlaw05_Sum16Slips.j1]
  have r1 := bt_range s at_
  have r2 := bt_range s ((at_ : Int) + 1)
  rw [w64 (x := (s.size : Int) - 1) (by omega) (by omega), w64 (x := (at_ : Int) + 1) (by omega) (by omega), w64 (x := bt s at_) (by omega) (by omega), w64 (x := bt s ((at_ : Int) + 1)) (by omega) (by omega), tmod_nn r1.1, tmod_nn r2.1]
  by_cases hlt : (at_ : Int) < (s.size : Int) - 1
  · simp only [if_pos hlt, if_pos (show (0 : Int) ≤ at_ by omega), if_pos (show (at_ : Int) < s.size by omega), if_pos (show 0 ≤ (at_ : Int) + 1 by omega), if_pos (show (at_ : Int) + 1 < s.size by omega)]
    exact j2_f s at_ hs h _ (fun hb => ⟨by omega, by simpa using hb⟩)
  · simp only [if_neg hlt]
    exact j2_f s at_ hs h _ (fun hb => by cases hb)
theorem Sum16Slips : haulierlaw05_Sum16Slips.Pure := by
  intro s a c hs ha hc
  refine Ev.rounds ?_
  have hbig : ∀ b, b = true → Ev (fun k => haulierlaw05_Sum16Slips.j0 k s a c b) true := by
    rintro _ rfl
    refine ev_succ ?_
    simp only [haulierlaw05_Sum16Slips.j0, if_true]
    exact Ev.bind alive_f (Ev.now _)
  unfold haulierlaw05_Sum16Slips.f
  by_cases h1 : (s.size : Int) > 3000
  · simp only [if_pos h1]; exact hbig _ rfl
  simp only [if_neg h1]
  by_cases h2 : a < 0
  · simp only [if_pos h2]; exact hbig _ rfl
  simp only [if_neg h2]
  by_cases h3 : a ≥ (s.size : Int)
  · exact hbig _ (by simpa using h3)
  refine ev_succ ?_
  simp only [haulierlaw05_Sum16Slips.j0, decide_eq_true_eq, if_neg h3]
  obtain ⟨at_, rfl⟩ := Int.eq_ofNat_of_zero_le (show 0 ≤ a by omega)
  have hc0 : 0 ≤ c ∧ c ≤ 255 := by simpa [Lit.wf, IntKind.min, IntKind.max, IntKind.signed, IntKind.bits] using hc
  have r1 := bt_range s at_
  have hts : (s ++ by2 (sm s)).size = s.size + 2 := by rw [ByteArray.size_append, by2_size]
  refine Ev.bind (seal_f s (by omega)) ?_
  rw [hts, w64 (x := (s.size : Int) + 2) (by omega) (by omega), w64 (x := c) (by omega) (by omega), w64 (x := bt s at_) (by omega) (by omega), w64 (x := (at_ : Int) + 1) (by omega) (by omega), tmod_nn hc0.1, tmod_nn r1.1]
  simp only [if_pos (show ((s.size + 2 : Nat) : Int) = (s.size : Int) + 2 by omega), if_pos (show (0 : Int) ≤ at_ by omega), if_pos (show (at_ : Int) < s.size by omega)]
  have hj1 := j1_f s at_ (by omega) (by omega)
  by_cases heq : c % 255 = bt s at_ % 255
  · simp only [if_pos heq]
    exact hj1
  · have hb2 : bl (strOfNums [c]) = [c] := bl_nums _ (by simp; omega)
    have z1 : (s.extract 0 at_).size = at_ := by rw [size_bl, bl_extract, List.length_drop, List.length_take, bl_length]; omega
    have z2 : (strOfNums [c]).size = 1 := by rw [size_bl, hb2]; rfl
    have z3 : ((s ++ by2 (sm s)).extract (at_ + 1) (s.size + 2)).size ≤ s.size + 2 := by
      have := ext_size (s ++ by2 (sm s)) (at_ + 1) (s.size + 2) (by omega)
      omega
    simp only [if_neg heq, if_pos (show (at_ : Int) ≤ s.size by omega), Option.bind_some, if_pos (show 0 ≤ (at_ : Int) + 1 by omega), if_pos (show (at_ : Int) + 1 ≤ ((s.size + 2 : Nat) : Int) by omega), Int.toNat_natCast, show ((at_ : Int) + 1).toNat = at_ + 1 by omega]
    rw [z1, z2]
    simp only [if_pos (show at_ + 1 ≤ 9223372036854775807 by omega)]
    rw [ByteArray.size_append, z1, z2]
    simp only [if_pos (show at_ + 1 + ((s ++ by2 (sm s)).extract (at_ + 1) (s.size + 2)).size ≤ 9223372036854775807 by omega)]
    refine Ev.bind (open_f _ ?_) ?_
    · rw [ByteArray.size_append, ByteArray.size_append, z1, z2]
      omega
    · have hcut : bl s = (bl s).take at_ ++ bt s at_ :: (bl s).drop (at_ + 1) := by
        have d1 := bl_drop s at_ (by omega)
        conv => lhs; rw [← List.take_append_drop at_ (bl s), d1]
      have hu : bl (s.extract 0 at_ ++ strOfNums [c] ++ (s ++ by2 (sm s)).extract (at_ + 1) (s.size + 2)) = ((bl s).take at_ ++ c :: (bl s).drop (at_ + 1)) ++ by2l (sm s) := by
        rw [bl_append, bl_append, bl_extract, bl_extract, hb2, bl_seal]
        rw [List.take_of_length_le (l := bl s ++ by2l (sm s)) (by rw [List.length_append, bl_length]; simp [by2l]), List.drop_append_of_le_length (by rw [bl_length]; omega)]
        simp
      rw [opn_slip s _ _ hu]
      · simp only [empty_list, if_true]
        exact hj1
      · conv => rhs; rw [hcut]
        exact slip1 _ _ _ _ heq


end Go.Proofs.Ytgdgmmojejjlhaa.Pure
