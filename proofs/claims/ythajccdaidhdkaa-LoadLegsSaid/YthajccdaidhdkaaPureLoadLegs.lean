/- What lies on a truck on each leg, the most of it, and whether there is room for it, is what the reference says, or the error: for every list of at most 100 or more than 2,000 numbers of 64 bits and every room (lists between: the examples alone). -/
import Derived.Test.YthajccdaidhdkaaMLoadLegsx3
set_option linter.unusedVariables false
set_option linter.unusedSimpArgs false
namespace Go.Proofs.Ythajccdaidhdkaa.Pure
open Go.RowKit Go.Proofs.Ythajccdaidhdkaa.MLoadLegs Go.Proofs.YthajccdaidhdkaaW.PrintWords Go.Proofs.YthajccdaidhdkaaW.PrintLast

theorem w64 {x : Int} (h0 : -9223372036854775808 ≤ x) (h1 : x ≤ 9223372036854775807) : wrap64 x = x := by
  unfold wrap64
  omega
theorem tmod_nn {a : Int} (h : 0 ≤ a) (b : Int) : Int.tmod a b = a % b := by
  rw [Int.tmod_eq_emod_of_nonneg h]
theorem tdiv_nn {a : Int} (h : 0 ≤ a) (b : Int) : Int.tdiv a b = a / b := by
  rw [Int.tdiv_eq_ediv_of_nonneg h]
theorem ev_succ {α : Type} {g : Nat → Option α} {r : α} (h : Ev (fun k => g (k + 1)) r) : Ev g r := by
  obtain ⟨K, h⟩ := h
  refine ⟨K + 1, fun n hn => ?_⟩
  obtain ⟨m, rfl⟩ : ∃ m, n = m + 1 := ⟨n - 1, by omega⟩
  exact h m (by omega)

def IR (x : Int) : Prop := -9223372036854775808 ≤ x ∧ x ≤ 9223372036854775807
theorem ir_of {x : Int} (h : (Lit.int .i64 x).wf = true) : IR x := by simpa [IR, Lit.wf, IntKind.min, IntKind.max, IntKind.signed, IntKind.bits] using h
theorem rd_drop (xs : List Int) (i : Nat) (h : i < xs.length) : xs.drop i = rd xs (i : Int) :: xs.drop (i + 1) := by
  rw [List.drop_eq_getElem_cons h]
  simp [rd, h]
theorem rd_mem (xs : List Int) (i : Nat) (h : i < xs.length) : rd xs (i : Int) ∈ xs := by
  simp [rd, h]

theorem lalive_f : Ev (fun k => haulierlaw21_alive.f k) true := by
  refine Ev.of (k := 60) haulierlaw21_alive.mono ?_
  decide +kernel
def bro (x : Int) : Int := if 0 < x then x else 0
def fet (x : Int) : Int := if x < 0 then -x else 0
theorem mx_bro (x : Int) : mx 0 x = bro x := rfl
theorem mx_bro2 (x : Int) : mx x 0 = bro x := by unfold mx bro; split <;> split <;> omega
theorem mn_fet (x : Int) : mn x 0 = - fet x := by unfold mn fet; split <;> split <;> omega
theorem bf (x : Int) : x = bro x - fet x ∧ 0 ≤ bro x ∧ 0 ≤ fet x := by unfold bro fet; split <;> split <;> omega
def B : List Int → Int
  | [] => 0
  | x :: t => bro x + B t
def F : List Int → Int
  | [] => 0
  | x :: t => fet x + F t
def legsP : Int → List Int → List Int
  | f, [] => [f]
  | f, x :: t => (f + B (x :: t)) :: legsP (f + fet x) t
def bnd (l : List Int) : Prop := ∀ x ∈ l, -1000000 ≤ x ∧ x ≤ 1000000
theorem bf_bnd {x : Int} (h : -1000000 ≤ x ∧ x ≤ 1000000) : bro x ≤ 1000000 ∧ fet x ≤ 1000000 := by unfold bro fet; split <;> split <;> omega
theorem B_pos (l : List Int) : 0 ≤ B l := by
  induction l with
  | nil => simp [B]
  | cons x t ih => have := bf x; simp only [B]; omega
theorem F_pos (l : List Int) : 0 ≤ F l := by
  induction l with
  | nil => simp [F]
  | cons x t ih => have := bf x; simp only [F]; omega
theorem BF_le (l : List Int) (h : bnd l) : B l ≤ 1000000 * l.length ∧ F l ≤ 1000000 * l.length := by
  induction l with
  | nil => simp [B, F]
  | cons x t ih =>
    have h1 := bf_bnd (h x List.mem_cons_self)
    have h2 := ih (fun y hy => h y (List.mem_cons_of_mem _ hy))
    simp only [B, F, List.length_cons]
    omega
theorem legsP_len (l : List Int) : ∀ f, (legsP f l).length = l.length + 1 := by
  induction l with
  | nil => intro f; rfl
  | cons x t ih => intro f; simp only [legsP, List.length_cons, ih]
theorem legsP_rd (l : List Int) : ∀ (f : Int) (i : Nat), i ≤ l.length → rd (legsP f l) (i : Int) = f + F (l.take i) + B (l.drop i) := by
  induction l with
  | nil =>
    intro f i hi
    have : i = 0 := by simpa using hi
    subst this
    simp [legsP, rd, F, B]
  | cons x t ih =>
    intro f i hi
    cases i with
    | zero => simp [legsP, rd, F]
    | succ i =>
      have := ih (f + fet x) i (by simpa using hi)
      simp only [rd, Int.toNat_natCast, legsP, List.getD_cons_succ, List.take_succ_cons, List.drop_succ_cons, F] at this ⊢
      omega
def chkL (l : List Int) : Int := if (l.length : Int) > 2000 then 12 else (if l.any load_check.bad = true then 4 else 0)
theorem chkL_ok {l : List Int} (h : chkL l = 0) : l.length ≤ 2000 ∧ bnd l := by
  unfold chkL at h
  by_cases h1 : (l.length : Int) > 2000
  · rw [if_pos h1] at h; omega
  · rw [if_neg h1] at h
    by_cases h2 : l.any load_check.bad = true
    · rw [if_pos h2] at h; omega
    · refine ⟨by omega, fun x hx => ?_⟩
      have h3 : ¬ load_check.bad x = true := fun h3 => h2 (List.any_eq_true.2 ⟨x, hx, h3⟩)
      simp [load_check.bad] at h3
      omega
theorem loadcheck_f (l : List Int) : load_check.f l = some (chkL l) := by
  unfold load_check.f chkL
  split
  · rfl
  · split <;> rfl
def legsS (l : List Int) : List Int × Int := if chkL l = 0 then (legsP 0 l, 0) else ([], chkL l)
theorem sum_map (l : List Int) : ∀ i : Nat, i < l.length → B (l.drop i) = bro (rd l (i : Int)) + B (l.drop (i + 1)) := by
  intro i hi
  rw [rd_drop l i hi]
  rfl
def sumI : List Int → Int
  | [] => 0
  | x :: t => x + sumI t
theorem sumI_map (l : List Int) : sumI (l.map bro) = B l := by
  induction l with
  | nil => rfl
  | cons x t ih => simp only [List.map_cons, sumI, B, ih]
theorem ladd_l0 (l : List Int) (hl : l.length ≤ 2000) (hb : ∀ x ∈ l, 0 ≤ x ∧ x ≤ 1000000) (d : Nat) : ∀ (i : Nat) (n : Int), i + d = l.length → 0 ≤ n → n ≤ 1000000 * i → Ev (fun k => minute_Add.l0 k n l (l.length : Int) (i : Int)) (n + sumI (l.drop i), 0) := by
  induction d with
  | zero =>
    intro i n hi h0 h1
    rw [List.drop_of_length_le (by omega)]
    refine ev_succ ?_
    simp only [minute_Add.l0, if_neg (show ¬ (i : Int) < (l.length : Int) by omega), sumI, Int.add_zero]
    exact Ev.now _
  | succ d ih =>
    intro i n hi h0 h1
    have hx := hb _ (rd_mem l i (by omega))
    have h := ih (i + 1) (n + rd l (i : Int)) (by omega) (by omega) (by omega)
    rw [rd_drop l i (by omega), sumI, ← Int.add_assoc]
    rw [show (((i + 1 : Nat) : Int)) = (i : Int) + 1 by omega] at h
    refine ev_succ ?_
    simp only [minute_Add.l0, if_pos (show (i : Int) < (l.length : Int) by omega), if_pos (show (0 : Int) ≤ (i : Int) by omega), w64 (x := (i : Int) + 1) (by omega) (by omega), w64 (x := n + rd l (i : Int)) (by omega) (by omega), w64 (x := 9223372036854775807 - rd l (i : Int)) (by omega) (by omega), if_neg (show ¬ n > 9223372036854775807 - rd l (i : Int) by omega), if_neg (show ¬ rd l (i : Int) < 0 by omega), ite_self]
    exact h
theorem ladd_f (l : List Int) (hl : l.length ≤ 2000) (hb : ∀ x ∈ l, 0 ≤ x ∧ x ≤ 1000000) : Ev (fun k => minute_Add.f k l) (sumI l, 0) := by
  unfold minute_Add.f
  have := ladd_l0 l hl hb l.length 0 0 (by omega) (by omega) (by omega)
  simpa using this
theorem legs_l1 (l : List Int) (hl : l.length ≤ 2000) (hb : bnd l) (d : Nat) : ∀ (i : Nat) (f n : Int) (out : List Int), i + d = l.length → out.length = i → n = f + B (l.drop i) → 0 ≤ f → f ≤ 1000000 * i → Ev (fun k => load_Legs.l1 k l n (out ++ [n]) (l.length : Int) (i : Int)) (out ++ legsP f (l.drop i), 0) := by
  induction d with
  | zero =>
    intro i f n out hi ho hn hf0 hf1
    rw [List.drop_of_length_le (by omega)] at hn ⊢
    refine ev_succ ?_
    simp only [load_Legs.l1, if_neg (show ¬ (i : Int) < (l.length : Int) by omega), legsP]
    simp only [B, Int.add_zero] at hn
    subst hn
    exact Ev.now _
  | succ d ih =>
    intro i f n out hi ho hn hf0 hf1
    have hx := hb _ (rd_mem l i (by omega))
    have hbf := bf (rd l (i : Int))
    have hbb := bf_bnd hx
    have hBd := (BF_le (l.drop (i + 1)) (fun y hy => hb y (List.mem_of_mem_drop hy))).1
    have hBp := B_pos (l.drop (i + 1))
    rw [List.length_drop] at hBd
    have hd := sum_map l i (by omega)
    have e : n - rd l (i : Int) = f + fet (rd l (i : Int)) + B (l.drop (i + 1)) := by omega
    have h := ih (i + 1) (f + fet (rd l (i : Int))) (n - rd l (i : Int)) (out ++ [n]) (by omega) (by simp [ho]) e (by omega) (by omega)
    rw [show (((i + 1 : Nat) : Int)) = (i : Int) + 1 by omega] at h
    refine ev_succ ?_
    simp only [load_Legs.l1, if_pos (show (i : Int) < (l.length : Int) by omega), if_pos (show (0 : Int) ≤ (i : Int) by omega), w64 (x := (i : Int) + 1) (by omega) (by omega), w64 (x := n - rd l (i : Int)) (by omega) (by omega), if_pos (show (out ++ [n]).length < 17592186044416 by rw [List.length_append, List.length_singleton]; omega)]
    rw [rd_drop l i (by omega), legsP, ← rd_drop l i (by omega), ← hn]
    rw [List.append_assoc, List.singleton_append] at h
    rw [List.append_assoc, List.singleton_append]
    simpa using h
theorem legs_l0 (l : List Int) (hl : l.length ≤ 2000) (R : List Int × Int) (d : Nat) : ∀ (i : Nat) (acc : List Int), i + d = l.length → acc.length = i → Ev (fun k => (minute_Add.f k (acc ++ (l.drop i).map bro)).bind fun bt110 => (if bt110.2 = 0 then (load_Legs.l1 k l bt110.1 (([bt110.1] : List Int)) (l.length : Int) 0) else (some (([] : List Int), bt110.2)))) R → Ev (fun k => load_Legs.l0 k l acc (l.length : Int) (i : Int)) R := by
  induction d with
  | zero =>
    intro i acc hi ha h
    rw [List.drop_of_length_le (by omega), List.map_nil, List.append_nil] at h
    refine ev_succ ?_
    simp only [load_Legs.l0, if_neg (show ¬ (i : Int) < (l.length : Int) by omega)]
    exact h
  | succ d ih =>
    intro i acc hi ha h
    have h2 := ih (i + 1) (acc ++ [bro (rd l (i : Int))]) (by omega) (by simp [ha]) (by
      rw [rd_drop l i (by omega), List.map_cons] at h
      rw [List.append_assoc, List.singleton_append]
      exact h)
    rw [show (((i + 1 : Nat) : Int)) = (i : Int) + 1 by omega] at h2
    refine ev_succ ?_
    simp only [load_Legs.l0, if_pos (show (i : Int) < (l.length : Int) by omega), if_pos (show (0 : Int) ≤ (i : Int) by omega), w64 (x := (i : Int) + 1) (by omega) (by omega), if_pos (show acc.length < 17592186044416 by omega), mx_bro]
    exact h2
theorem legs_f (l : List Int) : Ev (fun k => load_Legs.f k l) (legsS l) := by
  unfold load_Legs.f legsS
  simp only [loadcheck_f, Option.bind_some]
  by_cases h : chkL l = 0
  · obtain ⟨h1, h2⟩ := chkL_ok h
    simp only [if_pos h, if_pos (show (0 : Int) ≤ (l.length : Int) by omega), if_pos (show ((l.length : Int)).toNat ≤ 35184372088832 by omega)]
    refine legs_l0 l h1 _ l.length 0 [] (by omega) rfl ?_
    rw [List.nil_append, List.drop_zero]
    refine Ev.bind (ladd_f _ (by simpa using h1) ?_) ?_
    · intro x hx
      obtain ⟨y, hy, rfl⟩ := List.mem_map.1 hx
      have := bf y
      have := bf_bnd (h2 y hy)
      omega
    · rw [sumI_map]
      simp only [if_true]
      have := legs_l1 l h1 h2 l.length 0 0 (B l) [] (by omega) rfl (by simp) (by omega) (by omega)
      simpa using this
  · simp only [if_neg h]
    exact Ev.now _

theorem take_rd (l : List Int) (i : Nat) (h : i < l.length) : l.take (i + 1) = l.take i ++ [rd l (i : Int)] := by
  rw [List.take_add_one, List.getElem?_eq_getElem h]
  simp [rd, h]
theorem lsame_l0 (l : List Int) (hl : l.length ≤ 100000) (m : List Int) (hm : l.length = m.length) (e : l = m) (d : Nat) : ∀ (i : Nat), i + d = l.length → Ev (fun k => haulierref07_Same.l0 k l m (i : Int)) true := by
  subst e
  induction d with
  | zero =>
    intro i hi
    refine ev_succ ?_
    simp only [haulierref07_Same.l0, if_neg (show ¬ (i : Int) < (l.length : Int) by omega)]
    exact Ev.now _
  | succ d ih =>
    intro i hi
    have h := ih (i + 1) (by omega)
    rw [show (((i + 1 : Nat) : Int)) = (i : Int) + 1 by omega] at h
    refine ev_succ ?_
    simp only [haulierref07_Same.l0, if_pos (show (i : Int) < (l.length : Int) by omega), if_pos (show (0 : Int) ≤ (i : Int) by omega), if_true, w64 (x := (i : Int) + 1) (by omega) (by omega)]
    exact h
theorem lsame_f (l : List Int) (hl : l.length ≤ 100000) : Ev (fun k => haulierref07_Same.f k l l) true := by
  unfold haulierref07_Same.f
  simp only [if_true]
  exact lsame_l0 l hl l rfl rfl l.length 0 (by omega)
def pk (l : List Int) : Int := l.foldl mx 0
theorem mx_le (a b M : Int) : mx a b ≤ M ↔ a ≤ M ∧ b ≤ M := by unfold mx; split <;> omega
theorem fm_le (l : List Int) : ∀ (b M : Int), l.foldl mx b ≤ M ↔ b ≤ M ∧ ∀ e ∈ l, e ≤ M := by
  induction l with
  | nil => intro b M; simp
  | cons x t ih =>
    intro b M
    rw [List.foldl_cons, ih, mx_le, List.forall_mem_cons]
    exact ⟨fun h => ⟨h.1.1, h.1.2, h.2⟩, fun h => ⟨⟨h.1, h.2.1⟩, h.2.2⟩⟩
theorem legs_head (f : Int) (l : List Int) : ∃ t, legsP f l = (f + B l) :: t := by
  cases l with
  | nil => exact ⟨[], by simp [legsP, B]⟩
  | cons x t => exact ⟨_, rfl⟩
def peakS (l : List Int) : Int × Int := if chkL l = 0 then (pk (legsP 0 l), 0) else (0, chkL l)
theorem lpeak_f (l : List Int) : Ev (fun k => load_Peak.f k l) (peakS l) := by
  unfold load_Peak.f
  refine Ev.bind (legs_f l) ?_
  unfold legsS peakS
  by_cases h : chkL l = 0
  · obtain ⟨h1, h2⟩ := chkL_ok h
    have hlen := legsP_len l 0
    simp only [if_pos h, if_true]
    have : slices_Max_int_int.f (legsP 0 l) = some (pk (legsP 0 l)) := by
      unfold slices_Max_int_int.f
      rw [if_pos (by omega)]
      obtain ⟨t, ht⟩ := legs_head 0 l
      have hp := B_pos l
      rw [ht]
      simp only [List.drop_succ_cons, List.drop_zero, pk, List.foldl_cons, rd, Int.toNat_zero, List.getD_cons_zero]
      rw [show mx 0 (0 + B l) = 0 + B l by unfold mx; split <;> omega]
    simp only [this, Option.bind_some]
    exact Ev.now _
  · simp only [if_neg h]
    exact Ev.now _

theorem lfits_f (a : Int) (l : List Int) : Ev (fun k => load_Fits.f k a l) (if chkL l = 0 then decide (pk (legsP 0 l) ≤ a) else false) := by
  unfold load_Fits.f
  refine Ev.bind (lpeak_f l) ?_
  unfold peakS
  by_cases h : chkL l = 0
  · simp only [if_pos h, if_true]
    exact Ev.now _
  · simp only [if_neg h]
    exact Ev.now _
theorem rchk_l0 (l : List Int) (hl : l.length ≤ 2000) (d : Nat) : ∀ (i : Nat), i + d = l.length → Ev (fun k => haulierref21_Check.l0 k l (i : Int)) (if (l.drop i).any load_check.bad = true then 4 else 0) := by
  induction d with
  | zero =>
    intro i hi
    rw [List.drop_of_length_le (by omega)]
    refine ev_succ ?_
    simp only [haulierref21_Check.l0, if_neg (show ¬ (i : Int) < (l.length : Int) by omega)]
    exact Ev.now _
  | succ d ih =>
    intro i hi
    have h := ih (i + 1) (by omega)
    rw [rd_drop l i (by omega), List.any_cons]
    rw [show (((i + 1 : Nat) : Int)) = (i : Int) + 1 by omega] at h
    refine ev_succ ?_
    simp only [haulierref21_Check.l0, if_pos (show (i : Int) < (l.length : Int) by omega), if_pos (show (0 : Int) ≤ (i : Int) by omega), w64 (x := (i : Int) + 1) (by omega) (by omega)]
    by_cases h1 : rd l (i : Int) < -1000000
    · simp only [if_pos h1]
      rw [show load_check.bad (rd l (i : Int)) = true by simp [load_check.bad, h1], Bool.true_or, if_pos rfl]
      exact Ev.now _
    · by_cases h2 : rd l (i : Int) > 1000000
      · simp only [if_neg h1, if_pos h2]
        rw [show load_check.bad (rd l (i : Int)) = true by simp [load_check.bad]; omega, Bool.true_or, if_pos rfl]
        exact Ev.now _
      · simp only [if_neg h1, if_neg h2]
        rw [show load_check.bad (rd l (i : Int)) = false by simp [load_check.bad]; omega, Bool.false_or]
        exact h
theorem rchk_f (l : List Int) : Ev (fun k => haulierref21_Check.f k l) (chkL l) := by
  unfold haulierref21_Check.f chkL
  by_cases h : (l.length : Int) > 2000
  · simp only [if_pos h]
    exact Ev.now _
  · simp only [if_neg h]
    have := rchk_l0 l (by omega) l.length 0 (by omega)
    simpa using this
def cont (leg : Int) : Int → List Int → Int
  | _, [] => 0
  | i, x :: t => (if leg ≤ i then bro x else fet x) + cont leg (i + 1) t
theorem cont_eq (leg : Nat) (l : List Int) : ∀ i : Nat, cont leg i l = F (l.take (leg - i)) + B (l.drop (leg - i)) := by
  induction l with
  | nil => intro i; simp [cont, F, B]
  | cons x t ih =>
    intro i
    have := ih (i + 1)
    rw [show (((i + 1 : Nat) : Int)) = (i : Int) + 1 by omega] at this
    rw [cont, this]
    by_cases h : leg ≤ i
    · rw [if_pos (by omega), show leg - i = 0 by omega, show leg - (i + 1) = 0 by omega]
      simp [F, B]
    · obtain ⟨j, hj⟩ : ∃ j, leg - i = j + 1 := ⟨leg - i - 1, by omega⟩
      rw [if_neg (by omega), hj, show leg - (i + 1) = j by omega]
      simp only [List.take_succ_cons, List.drop_succ_cons, F]
      omega
theorem rleg_l1 (l : List Int) (hl : l.length ≤ 2000) (hb : bnd l) (out : List Int) (hout : out.length ≤ 3000) (leg : Nat) (hleg : leg ≤ l.length) (R : List Int) (d : Nat) : ∀ (i : Nat) (n : Int), i + d = l.length → 0 ≤ n → n ≤ 1000000 * i → Ev (fun k => haulierref21_Legs.l0 k l (out ++ [n + cont leg i (l.drop i)]) ((leg : Int) + 1)) R → Ev (fun k => haulierref21_Legs.l1 k l out (leg : Int) n (i : Int)) R := by
  induction d with
  | zero =>
    intro i n hi h0 h1 h
    rw [List.drop_of_length_le (by omega), cont, Int.add_zero] at h
    refine ev_succ ?_
    simp only [haulierref21_Legs.l1, if_neg (show ¬ (i : Int) < (l.length : Int) by omega), if_pos (show out.length < 17592186044416 by omega), w64 (x := (leg : Int) + 1) (by omega) (by omega)]
    exact h
  | succ d ih =>
    intro i n hi h0 h1 h
    have hx := hb _ (rd_mem l i (by omega))
    have hbf := bf (rd l (i : Int))
    have hbb := bf_bnd hx
    rw [rd_drop l i (by omega), cont, ← Int.add_assoc] at h
    have h2 := ih (i + 1) (n + if (leg : Int) ≤ i then bro (rd l (i : Int)) else fet (rd l (i : Int))) (by omega) (by split <;> omega) (by split <;> omega) (by
      rw [show (((i + 1 : Nat) : Int)) = (i : Int) + 1 by omega]
      exact h)
    rw [show (((i + 1 : Nat) : Int)) = (i : Int) + 1 by omega] at h2
    have hj : ∀ z : Bool, (z = true ↔ rd l (i : Int) > 0 ∧ (leg : Int) ≤ i) → Ev (fun k => haulierref21_Legs.j2 k l out (leg : Int) n (i : Int) z) R := by
      intro z hz
      refine ev_succ ?_
      simp only [haulierref21_Legs.j2, if_pos (show (i : Int) < (l.length : Int) by omega), if_pos (show (0 : Int) ≤ (i : Int) by omega), w64 (x := (i : Int) + 1) (by omega) (by omega)]
      unfold bro fet at h2
      by_cases hzt : z = true
      · obtain ⟨h3, h4⟩ := hz.1 hzt
        rw [if_pos h4, if_pos (show 0 < rd l (i : Int) from h3)] at h2
        simp only [if_pos hzt, if_neg (show ¬ rd l (i : Int) < 0 by omega), w64 (x := n + rd l (i : Int)) (by omega) (by omega)]
        exact h2
      · have hz' : ¬ (rd l (i : Int) > 0 ∧ (leg : Int) ≤ i) := fun h => hzt (hz.2 h)
        simp only [if_neg hzt]
        by_cases h3 : rd l (i : Int) < 0
        · by_cases h4 : (i : Int) < (leg : Int)
          · rw [if_neg (by omega), if_pos h3] at h2
            simp only [if_pos h3, if_pos h4, w64 (x := n - rd l (i : Int)) (by omega) (by omega)]
            exact h2
          · rw [if_pos (by omega), if_neg (by omega), Int.add_zero] at h2
            simp only [if_pos h3, if_neg h4]
            exact h2
        · simp only [if_neg h3]
          by_cases h4 : (leg : Int) ≤ i
          · rw [if_pos h4, if_neg (show ¬ 0 < rd l (i : Int) by omega), Int.add_zero] at h2
            exact h2
          · rw [if_neg h4, if_neg h3, Int.add_zero] at h2
            exact h2
    refine ev_succ ?_
    simp only [haulierref21_Legs.l1, if_pos (show (i : Int) < (l.length : Int) by omega), if_pos (show (0 : Int) ≤ (i : Int) by omega)]
    by_cases h3 : rd l (i : Int) > 0
    · simp only [if_pos h3]
      exact hj _ (by simp [h3])
    · simp only [if_neg h3]
      exact hj _ (by simp [h3])
theorem legs_take (l : List Int) (i : Nat) (hi : i ≤ l.length) : (legsP 0 l).take (i + 1) = (legsP 0 l).take i ++ [cont i 0 l] := by
  rw [take_rd _ i (by rw [legsP_len]; omega), legsP_rd l 0 i hi]
  have := cont_eq i l 0
  simp only [Nat.sub_zero, Int.natCast_zero] at this
  rw [this, Int.zero_add]
theorem rleg_l0 (l : List Int) (hl : l.length ≤ 2000) (hb : bnd l) (d : Nat) : ∀ (i : Nat), i + d = l.length + 1 → Ev (fun k => haulierref21_Legs.l0 k l ((legsP 0 l).take i) (i : Int)) (legsP 0 l) := by
  have hlen := legsP_len l 0
  induction d with
  | zero =>
    intro i hi
    rw [List.take_of_length_le (by omega)]
    refine ev_succ ?_
    simp only [haulierref21_Legs.l0, if_neg (show ¬ (i : Int) ≤ (l.length : Int) by omega)]
    exact Ev.now _
  | succ d ih =>
    intro i hi
    have h := ih (i + 1) (by omega)
    rw [show (((i + 1 : Nat) : Int)) = (i : Int) + 1 by omega, legs_take l i (by omega)] at h
    refine ev_succ ?_
    simp only [haulierref21_Legs.l0, if_pos (show (i : Int) ≤ (l.length : Int) by omega)]
    refine rleg_l1 l hl hb _ (by rw [List.length_take]; omega) i (by omega) _ l.length 0 0 (by omega) (by omega) (by omega) ?_
    rw [Int.zero_add, List.drop_zero]
    exact h
theorem rleg_f (l : List Int) (hl : l.length ≤ 2000) (hb : bnd l) : Ev (fun k => haulierref21_Legs.f k l) (legsP 0 l) := by
  unfold haulierref21_Legs.f
  have := rleg_l0 l hl hb (l.length + 1) 0 (by omega)
  simpa using this
theorem rpk_l0 (l : List Int) (hl : l.length ≤ 3000) (d : Nat) : ∀ (i : Nat) (b : Int), i + d = l.length → Ev (fun k => haulierref21_Peak.l0 k b l (i : Int)) ((l.drop i).foldl mx b) := by
  induction d with
  | zero =>
    intro i b hi
    rw [List.drop_of_length_le (by omega)]
    refine ev_succ ?_
    simp only [haulierref21_Peak.l0, if_neg (show ¬ (i : Int) < (l.length : Int) by omega)]
    exact Ev.now _
  | succ d ih =>
    intro i b hi
    have h := ih (i + 1) (mx b (rd l (i : Int))) (by omega)
    rw [rd_drop l i (by omega), List.foldl_cons]
    rw [show (((i + 1 : Nat) : Int)) = (i : Int) + 1 by omega] at h
    refine ev_succ ?_
    simp only [haulierref21_Peak.l0, if_pos (show (i : Int) < (l.length : Int) by omega), if_pos (show (0 : Int) ≤ (i : Int) by omega), w64 (x := (i : Int) + 1) (by omega) (by omega)]
    by_cases h1 : rd l (i : Int) > b
    · simp only [if_pos h1]
      rw [show mx b (rd l (i : Int)) = rd l (i : Int) by unfold mx; rw [if_pos h1]] at h ⊢
      exact h
    · simp only [if_neg h1]
      rw [show mx b (rd l (i : Int)) = b by unfold mx; rw [if_neg h1]] at h ⊢
      exact h
theorem rpk_f (l : List Int) (hl : l.length ≤ 2000) (hb : bnd l) : Ev (fun k => haulierref21_Peak.f k l) (pk (legsP 0 l)) := by
  unfold haulierref21_Peak.f
  refine Ev.bind (rleg_f l hl hb) ?_
  have hlen := legsP_len l 0
  have := rpk_l0 (legsP 0 l) (by omega) (l.length + 1) 0 0 (by omega)
  unfold pk
  simpa using this
theorem ll_j0 (l : List Int) (a : Int) (z : Bool) : Ev (fun k => haulierlaw21_LoadLegs.j0 k l a z) true := by
  refine ev_succ ?_
  simp only [haulierlaw21_LoadLegs.j0]
  by_cases hz : z = true
  · simp only [if_pos hz]
    exact Ev.bind lalive_f (Ev.now _)
  · simp only [if_neg hz]
    refine Ev.bind (legs_f l) (Ev.bind (lpeak_f l) (Ev.bind (rchk_f l) ?_))
    by_cases h : chkL l = 0
    · obtain ⟨h1, h2⟩ := chkL_ok h
      have hlen := legsP_len l 0
      have hfit := lfits_f a l
      rw [if_pos h] at hfit
      simp only [legsS, peakS, if_pos h]
      refine Ev.bind (rleg_f l h1 h2) (Ev.bind (lsame_f _ (by omega)) ?_)
      simp only [if_true]
      refine Ev.bind (rpk_f l h1 h2) ?_
      simp only [if_true]
      refine Ev.bind hfit (Ev.bind (rpk_f l h1 h2) ?_)
      simp only [beq_self_eq_true, if_true]
      exact Ev.bind lalive_f (Ev.now _)
    · have hfit := lfits_f a l
      rw [if_neg h] at hfit
      simp only [legsS, peakS, if_neg h]
      simp only [List.length_nil, Int.natCast_zero, if_true]
      refine Ev.bind hfit ?_
      simp only [if_neg (show ¬ false = true by simp)]
      exact Ev.bind lalive_f (Ev.now _)
theorem LoadLegs : haulierlaw21_LoadLegs.Pure := by
  intro l a _ _ _ _
  refine Ev.rounds ?_
  unfold haulierlaw21_LoadLegs.f
  by_cases h : (l.length : Int) > 100
  · simp only [if_pos h]
    exact ll_j0 l a _
  · simp only [if_neg h]
    exact ll_j0 l a _


end Go.Proofs.Ythajccdaidhdkaa.Pure
