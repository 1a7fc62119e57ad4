/- What is brought first, then what is fetched, is what the reference orders, and no change of places gives a lower peak: for every list of at most 100 numbers of 64 bits and at most 100 places (longer ones: the examples alone). -/
import Derived.Test.YthajccdaidhdkaaMLoadEasex3
set_option linter.unusedVariables false
set_option linter.unusedSimpArgs false
namespace Go.Proofs.Ythajccdaidhdkaa.Pure
open Go.RowKit Go.Proofs.Ythajccdaidhdkaa.MLoadEase Go.Proofs.YthajccdaidhdkaaW.PrintWords Go.Proofs.YthajccdaidhdkaaW.PrintLast

theorem w64 {x : Int} (h0 : -9223372036854775808 ≤ x) (h1 : x ≤ 9223372036854775807) : wrap64 x = x := by
  unfold wrap64
  omega
theorem tmod_nn {a : Int} (h : 0 ≤ a) (b : Int) : Int.tmod a b = a % b := by
  rw [Int.tmod_eq_emod_of_nonneg h]
theorem tdiv_nn {a : Int} (h : 0 ≤ a) (b : Int) : Int.tdiv a b = a / b := by
  rw [Int.tdiv_eq_ediv_of_nonneg h]
theorem ev_succ {α : Type} {g : Nat → Option α} {r : α} (h : Ev (fun k => g (k + 1)) r) : Ev g r := by
  obtain ⟨K, h⟩ := h
  refine ⟨K + 1, fun n hn => ?_⟩
  obtain ⟨m, rfl⟩ : ∃ m, n = m + 1 := ⟨n - 1, by omega⟩
  exact h m (by omega)

def IR (x : Int) : Prop := -9223372036854775808 ≤ x ∧ x ≤ 9223372036854775807
theorem ir_of {x : Int} (h : (Lit.int .i64 x).wf = true) : IR x := by simpa [IR, Lit.wf, IntKind.min, IntKind.max, IntKind.signed, IntKind.bits] using h
theorem rd_drop (xs : List Int) (i : Nat) (h : i < xs.length) : xs.drop i = rd xs (i : Int) :: xs.drop (i + 1) := by
  rw [List.drop_eq_getElem_cons h]
  simp [rd, h]
theorem rd_mem (xs : List Int) (i : Nat) (h : i < xs.length) : rd xs (i : Int) ∈ xs := by
  simp [rd, h]

theorem lalive_f : Ev (fun k => haulierlaw21_alive.f k) true := by
  refine Ev.of (k := 60) haulierlaw21_alive.mono ?_
  decide +kernel
def bro (x : Int) : Int := if 0 < x then x else 0
def fet (x : Int) : Int := if x < 0 then -x else 0
theorem mx_bro (x : Int) : mx 0 x = bro x := rfl
theorem mx_bro2 (x : Int) : mx x 0 = bro x := by unfold mx bro; split <;> split <;> omega
theorem mn_fet (x : Int) : mn x 0 = - fet x := by unfold mn fet; split <;> split <;> omega
theorem bf (x : Int) : x = bro x - fet x ∧ 0 ≤ bro x ∧ 0 ≤ fet x := by unfold bro fet; split <;> split <;> omega
def B : List Int → Int
  | [] => 0
  | x :: t => bro x + B t
def F : List Int → Int
  | [] => 0
  | x :: t => fet x + F t
def legsP : Int → List Int → List Int
  | f, [] => [f]
  | f, x :: t => (f + B (x :: t)) :: legsP (f + fet x) t
def bnd (l : List Int) : Prop := ∀ x ∈ l, -1000000 ≤ x ∧ x ≤ 1000000
theorem bf_bnd {x : Int} (h : -1000000 ≤ x ∧ x ≤ 1000000) : bro x ≤ 1000000 ∧ fet x ≤ 1000000 := by unfold bro fet; split <;> split <;> omega
theorem B_pos (l : List Int) : 0 ≤ B l := by
  induction l with
  | nil => simp [B]
  | cons x t ih => have := bf x; simp only [B]; omega
theorem F_pos (l : List Int) : 0 ≤ F l := by
  induction l with
  | nil => simp [F]
  | cons x t ih => have := bf x; simp only [F]; omega
theorem BF_le (l : List Int) (h : bnd l) : B l ≤ 1000000 * l.length ∧ F l ≤ 1000000 * l.length := by
  induction l with
  | nil => simp [B, F]
  | cons x t ih =>
    have h1 := bf_bnd (h x List.mem_cons_self)
    have h2 := ih (fun y hy => h y (List.mem_cons_of_mem _ hy))
    simp only [B, F, List.length_cons]
    omega
theorem legsP_len (l : List Int) : ∀ f, (legsP f l).length = l.length + 1 := by
  induction l with
  | nil => intro f; rfl
  | cons x t ih => intro f; simp only [legsP, List.length_cons, ih]
theorem legsP_rd (l : List Int) : ∀ (f : Int) (i : Nat), i ≤ l.length → rd (legsP f l) (i : Int) = f + F (l.take i) + B (l.drop i) := by
  induction l with
  | nil =>
    intro f i hi
    have : i = 0 := by simpa using hi
    subst this
    simp [legsP, rd, F, B]
  | cons x t ih =>
    intro f i hi
    cases i with
    | zero => simp [legsP, rd, F]
    | succ i =>
      have := ih (f + fet x) i (by simpa using hi)
      simp only [rd, Int.toNat_natCast, legsP, List.getD_cons_succ, List.take_succ_cons, List.drop_succ_cons, F] at this ⊢
      omega
def chkL (l : List Int) : Int := if (l.length : Int) > 2000 then 12 else (if l.any load_check.bad = true then 4 else 0)
theorem chkL_ok {l : List Int} (h : chkL l = 0) : l.length ≤ 2000 ∧ bnd l := by
  unfold chkL at h
  by_cases h1 : (l.length : Int) > 2000
  · rw [if_pos h1] at h; omega
  · rw [if_neg h1] at h
    by_cases h2 : l.any load_check.bad = true
    · rw [if_pos h2] at h; omega
    · refine ⟨by omega, fun x hx => ?_⟩
      have h3 : ¬ load_check.bad x = true := fun h3 => h2 (List.any_eq_true.2 ⟨x, hx, h3⟩)
      simp [load_check.bad] at h3
      omega
theorem loadcheck_f (l : List Int) : load_check.f l = some (chkL l) := by
  unfold load_check.f chkL
  split
  · rfl
  · split <;> rfl
def legsS (l : List Int) : List Int × Int := if chkL l = 0 then (legsP 0 l, 0) else ([], chkL l)
theorem sum_map (l : List Int) : ∀ i : Nat, i < l.length → B (l.drop i) = bro (rd l (i : Int)) + B (l.drop (i + 1)) := by
  intro i hi
  rw [rd_drop l i hi]
  rfl
def sumI : List Int → Int
  | [] => 0
  | x :: t => x + sumI t
theorem sumI_map (l : List Int) : sumI (l.map bro) = B l := by
  induction l with
  | nil => rfl
  | cons x t ih => simp only [List.map_cons, sumI, B, ih]
theorem ladd_l0 (l : List Int) (hl : l.length ≤ 2000) (hb : ∀ x ∈ l, 0 ≤ x ∧ x ≤ 1000000) (d : Nat) : ∀ (i : Nat) (n : Int), i + d = l.length → 0 ≤ n → n ≤ 1000000 * i → Ev (fun k => minute_Add.l0 k n l (l.length : Int) (i : Int)) (n + sumI (l.drop i), 0) := by
  induction d with
  | zero =>
    intro i n hi h0 h1
    rw [List.drop_of_length_le (by omega)]
    refine ev_succ ?_
    simp only [minute_Add.l0, if_neg (show ¬ (i : Int) < (l.length : Int) by omega), sumI, Int.add_zero]
    exact Ev.now _
  | succ d ih =>
    intro i n hi h0 h1
    have hx := hb _ (rd_mem l i (by omega))
    have h := ih (i + 1) (n + rd l (i : Int)) (by omega) (by omega) (by omega)
    rw [rd_drop l i (by omega), sumI, ← Int.add_assoc]
    rw [show (((i + 1 : Nat) : Int)) = (i : Int) + 1 by omega] at h
    refine ev_succ ?_
    simp only [minute_Add.l0, if_pos (show (i : Int) < (l.length : Int) by omega), if_pos (show (0 : Int) ≤ (i : Int) by omega), w64 (x := (i : Int) + 1) (by omega) (by omega), w64 (x := n + rd l (i : Int)) (by omega) (by omega), w64 (x := 9223372036854775807 - rd l (i : Int)) (by omega) (by omega), if_neg (show ¬ n > 9223372036854775807 - rd l (i : Int) by omega), if_neg (show ¬ rd l (i : Int) < 0 by omega), ite_self]
    exact h
theorem ladd_f (l : List Int) (hl : l.length ≤ 2000) (hb : ∀ x ∈ l, 0 ≤ x ∧ x ≤ 1000000) : Ev (fun k => minute_Add.f k l) (sumI l, 0) := by
  unfold minute_Add.f
  have := ladd_l0 l hl hb l.length 0 0 (by omega) (by omega) (by omega)
  simpa using this
theorem legs_l1 (l : List Int) (hl : l.length ≤ 2000) (hb : bnd l) (d : Nat) : ∀ (i : Nat) (f n : Int) (out : List Int), i + d = l.length → out.length = i → n = f + B (l.drop i) → 0 ≤ f → f ≤ 1000000 * i → Ev (fun k => load_Legs.l1 k l n (out ++ [n]) (l.length : Int) (i : Int)) (out ++ legsP f (l.drop i), 0) := by
  induction d with
  | zero =>
    intro i f n out hi ho hn hf0 hf1
    rw [List.drop_of_length_le (by omega)] at hn ⊢
    refine ev_succ ?_
    simp only [load_Legs.l1, if_neg (show ¬ (i : Int) < (l.length : Int) by omega), legsP]
    simp only [B, Int.add_zero] at hn
    subst hn
    exact Ev.now _
  | succ d ih =>
    intro i f n out hi ho hn hf0 hf1
    have hx := hb _ (rd_mem l i (by omega))
    have hbf := bf (rd l (i : Int))
    have hbb := bf_bnd hx
    have hBd := (BF_le (l.drop (i + 1)) (fun y hy => hb y (List.mem_of_mem_drop hy))).1
    have hBp := B_pos (l.drop (i + 1))
    rw [List.length_drop] at hBd
    have hd := sum_map l i (by omega)
    have e : n - rd l (i : Int) = f + fet (rd l (i : Int)) + B (l.drop (i + 1)) := by omega
    have h := ih (i + 1) (f + fet (rd l (i : Int))) (n - rd l (i : Int)) (out ++ [n]) (by omega) (by simp [ho]) e (by omega) (by omega)
    rw [show (((i + 1 : Nat) : Int)) = (i : Int) + 1 by omega] at h
    refine ev_succ ?_
    simp only [load_Legs.l1, if_pos (show (i : Int) < (l.length : Int) by omega), if_pos (show (0 : Int) ≤ (i : Int) by omega), w64 (x := (i : Int) + 1) (by omega) (by omega), w64 (x := n - rd l (i : Int)) (by omega) (by omega), if_pos (show (out ++ [n]).length < 17592186044416 by rw [List.length_append, List.length_singleton]; omega)]
    rw [rd_drop l i (by omega), legsP, ← rd_drop l i (by omega), ← hn]
    rw [List.append_assoc, List.singleton_append] at h
    rw [List.append_assoc, List.singleton_append]
    simpa using h
theorem legs_l0 (l : List Int) (hl : l.length ≤ 2000) (R : List Int × Int) (d : Nat) : ∀ (i : Nat) (acc : List Int), i + d = l.length → acc.length = i → Ev (fun k => (minute_Add.f k (acc ++ (l.drop i).map bro)).bind fun bt110 => (if bt110.2 = 0 then (load_Legs.l1 k l bt110.1 (([bt110.1] : List Int)) (l.length : Int) 0) else (some (([] : List Int), bt110.2)))) R → Ev (fun k => load_Legs.l0 k l acc (l.length : Int) (i : Int)) R := by
  induction d with
  | zero =>
    intro i acc hi ha h
    rw [List.drop_of_length_le (by omega), List.map_nil, List.append_nil] at h
    refine ev_succ ?_
    simp only [load_Legs.l0, if_neg (show ¬ (i : Int) < (l.length : Int) by omega)]
    exact h
  | succ d ih =>
    intro i acc hi ha h
    have h2 := ih (i + 1) (acc ++ [bro (rd l (i : Int))]) (by omega) (by simp [ha]) (by
      rw [rd_drop l i (by omega), List.map_cons] at h
      rw [List.append_assoc, List.singleton_append]
      exact h)
    rw [show (((i + 1 : Nat) : Int)) = (i : Int) + 1 by omega] at h2
    refine ev_succ ?_
    simp only [load_Legs.l0, if_pos (show (i : Int) < (l.length : Int) by omega), if_pos (show (0 : Int) ≤ (i : Int) by omega), w64 (x := (i : Int) + 1) (by omega) (by omega), if_pos (show acc.length < 17592186044416 by omega), mx_bro]
    exact h2
theorem legs_f (l : List Int) : Ev (fun k => load_Legs.f k l) (legsS l) := by
  unfold load_Legs.f legsS
  simp only [loadcheck_f, Option.bind_some]
  by_cases h : chkL l = 0
  · obtain ⟨h1, h2⟩ := chkL_ok h
    simp only [if_pos h, if_pos (show (0 : Int) ≤ (l.length : Int) by omega), if_pos (show ((l.length : Int)).toNat ≤ 35184372088832 by omega)]
    refine legs_l0 l h1 _ l.length 0 [] (by omega) rfl ?_
    rw [List.nil_append, List.drop_zero]
    refine Ev.bind (ladd_f _ (by simpa using h1) ?_) ?_
    · intro x hx
      obtain ⟨y, hy, rfl⟩ := List.mem_map.1 hx
      have := bf y
      have := bf_bnd (h2 y hy)
      omega
    · rw [sumI_map]
      simp only [if_true]
      have := legs_l1 l h1 h2 l.length 0 0 (B l) [] (by omega) rfl (by simp) (by omega) (by omega)
      simpa using this
  · simp only [if_neg h]
    exact Ev.now _

theorem take_rd (l : List Int) (i : Nat) (h : i < l.length) : l.take (i + 1) = l.take i ++ [rd l (i : Int)] := by
  rw [List.take_add_one, List.getElem?_eq_getElem h]
  simp [rd, h]
theorem lsame_l0 (l : List Int) (hl : l.length ≤ 100000) (m : List Int) (hm : l.length = m.length) (e : l = m) (d : Nat) : ∀ (i : Nat), i + d = l.length → Ev (fun k => haulierref07_Same.l0 k l m (i : Int)) true := by
  subst e
  induction d with
  | zero =>
    intro i hi
    refine ev_succ ?_
    simp only [haulierref07_Same.l0, if_neg (show ¬ (i : Int) < (l.length : Int) by omega)]
    exact Ev.now _
  | succ d ih =>
    intro i hi
    have h := ih (i + 1) (by omega)
    rw [show (((i + 1 : Nat) : Int)) = (i : Int) + 1 by omega] at h
    refine ev_succ ?_
    simp only [haulierref07_Same.l0, if_pos (show (i : Int) < (l.length : Int) by omega), if_pos (show (0 : Int) ≤ (i : Int) by omega), if_true, w64 (x := (i : Int) + 1) (by omega) (by omega)]
    exact h
theorem lsame_f (l : List Int) (hl : l.length ≤ 100000) : Ev (fun k => haulierref07_Same.f k l l) true := by
  unfold haulierref07_Same.f
  simp only [if_true]
  exact lsame_l0 l hl l rfl rfl l.length 0 (by omega)
def pk (l : List Int) : Int := l.foldl mx 0
theorem mx_le (a b M : Int) : mx a b ≤ M ↔ a ≤ M ∧ b ≤ M := by unfold mx; split <;> omega
theorem fm_le (l : List Int) : ∀ (b M : Int), l.foldl mx b ≤ M ↔ b ≤ M ∧ ∀ e ∈ l, e ≤ M := by
  induction l with
  | nil => intro b M; simp
  | cons x t ih =>
    intro b M
    rw [List.foldl_cons, ih, mx_le, List.forall_mem_cons]
    exact ⟨fun h => ⟨h.1.1, h.1.2, h.2⟩, fun h => ⟨⟨h.1, h.2.1⟩, h.2.2⟩⟩
theorem legs_head (f : Int) (l : List Int) : ∃ t, legsP f l = (f + B l) :: t := by
  cases l with
  | nil => exact ⟨[], by simp [legsP, B]⟩
  | cons x t => exact ⟨_, rfl⟩
def peakS (l : List Int) : Int × Int := if chkL l = 0 then (pk (legsP 0 l), 0) else (0, chkL l)
theorem lpeak_f (l : List Int) : Ev (fun k => load_Peak.f k l) (peakS l) := by
  unfold load_Peak.f
  refine Ev.bind (legs_f l) ?_
  unfold legsS peakS
  by_cases h : chkL l = 0
  · obtain ⟨h1, h2⟩ := chkL_ok h
    have hlen := legsP_len l 0
    simp only [if_pos h, if_true]
    have : slices_Max_int_int.f (legsP 0 l) = some (pk (legsP 0 l)) := by
      unfold slices_Max_int_int.f
      rw [if_pos (by omega)]
      obtain ⟨t, ht⟩ := legs_head 0 l
      have hp := B_pos l
      rw [ht]
      simp only [List.drop_succ_cons, List.drop_zero, pk, List.foldl_cons, rd, Int.toNat_zero, List.getD_cons_zero]
      rw [show mx 0 (0 + B l) = 0 + B l by unfold mx; split <;> omega]
    simp only [this, Option.bind_some]
    exact Ev.now _
  · simp only [if_neg h]
    exact Ev.now _

theorem ease_l0 (l : List Int) (hl : l.length ≤ 100) (d : Nat) : ∀ (i : Nat) (p q : List Int), i + d = l.length → p.length + q.length = i → Ev (fun k => load_Ease.l0 k p q l (l.length : Int) (i : Int)) ((p ++ (l.drop i).filter fun x => decide (0 < x)) ++ (q ++ (l.drop i).filter fun x => !decide (0 < x))) := by
  induction d with
  | zero =>
    intro i p q hi hpq
    rw [List.drop_of_length_le (by omega)]
    refine ev_succ ?_
    simp only [load_Ease.l0, if_neg (show ¬ (i : Int) < (l.length : Int) by omega), if_pos (show p.length + q.length < 17592186044416 by omega), List.filter_nil, List.append_nil]
    exact Ev.now _
  | succ d ih =>
    intro i p q hi hpq
    rw [rd_drop l i (by omega)]
    refine ev_succ ?_
    simp only [load_Ease.l0, if_pos (show (i : Int) < (l.length : Int) by omega), if_pos (show (0 : Int) ≤ (i : Int) by omega), w64 (x := (i : Int) + 1) (by omega) (by omega), if_pos (show p.length < 17592186044416 by omega), if_pos (show q.length < 17592186044416 by omega)]
    by_cases h1 : rd l (i : Int) > 0
    · have h := ih (i + 1) (p ++ [rd l (i : Int)]) q (by omega) (by simp; omega)
      rw [show (((i + 1 : Nat) : Int)) = (i : Int) + 1 by omega] at h
      simp only [if_pos h1]
      rw [List.filter_cons_of_pos (by simp; omega), List.filter_cons_of_neg (by simp; omega)]
      simpa using h
    · have h := ih (i + 1) p (q ++ [rd l (i : Int)]) (by omega) (by simp; omega)
      rw [show (((i + 1 : Nat) : Int)) = (i : Int) + 1 by omega] at h
      simp only [if_neg h1]
      rw [List.filter_cons_of_neg (by simp; omega), List.filter_cons_of_pos (by simp; omega)]
      simpa using h
def easeS (l : List Int) : List Int := (l.filter fun x => decide (0 < x)) ++ (l.filter fun x => !decide (0 < x))
theorem ease_f (l : List Int) (hl : l.length ≤ 100) : Ev (fun k => load_Ease.f k l) (easeS l) := by
  unfold load_Ease.f easeS
  have := ease_l0 l hl l.length 0 [] [] (by omega) rfl
  simpa using this
theorem rease_l1 (l : List Int) (hl : l.length ≤ 100) (j : Nat) (hj : j < 2) (R : List Int) (d : Nat) : ∀ (i : Nat) (out : List Int), i + d = l.length → out.length ≤ 100 * j + i → Ev (fun k => haulierref21_Ease.l0 k l (out ++ (l.drop i).filter fun x => (decide (x > 0)) == ((j : Int) == 0)) ((j : Int) + 1)) R → Ev (fun k => haulierref21_Ease.l1 k l out (j : Int) (i : Int)) R := by
  induction d with
  | zero =>
    intro i out hi ho h
    rw [List.drop_of_length_le (by omega), List.filter_nil, List.append_nil] at h
    refine ev_succ ?_
    simp only [haulierref21_Ease.l1, if_neg (show ¬ (i : Int) < (l.length : Int) by omega), w64 (x := (j : Int) + 1) (by omega) (by omega)]
    exact h
  | succ d ih =>
    intro i out hi ho h
    rw [rd_drop l i (by omega)] at h
    refine ev_succ ?_
    simp only [haulierref21_Ease.l1, if_pos (show (i : Int) < (l.length : Int) by omega), if_pos (show (0 : Int) ≤ (i : Int) by omega), w64 (x := (i : Int) + 1) (by omega) (by omega), if_pos (show out.length < 17592186044416 by omega)]
    by_cases h1 : ((decide (rd l (i : Int) > 0)) == ((j : Int) == 0)) = true
    · rw [List.filter_cons_of_pos (p := fun x => (decide (x > 0)) == ((j : Int) == 0)) h1] at h
      simp only [if_pos h1]
      have h2 := ih (i + 1) (out ++ [rd l (i : Int)]) (by omega) (by simp; omega) (by
        rw [List.append_assoc, List.singleton_append]
        exact h)
      rwa [show (((i + 1 : Nat) : Int)) = (i : Int) + 1 by omega] at h2
    · rw [List.filter_cons_of_neg (p := fun x => (decide (x > 0)) == ((j : Int) == 0)) h1] at h
      simp only [if_neg h1]
      have h2 := ih (i + 1) out (by omega) (by omega) h
      rwa [show (((i + 1 : Nat) : Int)) = (i : Int) + 1 by omega] at h2
theorem rease_f (l : List Int) (hl : l.length ≤ 100) : Ev (fun k => haulierref21_Ease.f k l) (easeS l) := by
  unfold haulierref21_Ease.f
  have hlen := List.length_filter_le (fun x => (decide (x > 0)) == (((0 : Nat) : Int) == 0)) l
  refine ev_succ ?_
  simp only [haulierref21_Ease.l0, if_pos (show (0 : Int) < 2 by omega)]
  refine rease_l1 l hl 0 (by omega) _ l.length 0 [] (by omega) (by simp) ?_
  refine ev_succ ?_
  simp only [haulierref21_Ease.l0, if_pos (show ((0 : Nat) : Int) + 1 < 2 by omega)]
  refine rease_l1 l hl 1 (by omega) _ l.length 0 _ (by omega) (by simp only [List.nil_append, List.drop_zero, List.length_append, List.length_nil]; omega) ?_
  refine ev_succ ?_
  simp only [haulierref21_Ease.l0, if_neg (show ¬ ((1 : Nat) : Int) + 1 < 2 by omega)]
  have e : ∀ x : Int, (decide (x > 0) == (((0 : Nat) : Int) == 0)) = decide (0 < x) := fun x => by simp
  have e2 : ∀ x : Int, (decide (x > 0) == (((1 : Nat) : Int) == 0)) = !decide (0 < x) := fun x => by simp
  simp only [e, e2, List.drop_zero, List.nil_append]
  exact Ev.now _
theorem F_app (l m : List Int) : F (l ++ m) = F l + F m := by
  induction l with
  | nil => simp [F]
  | cons x t ih => simp only [List.cons_append, F, ih]; omega
theorem B_app (l m : List Int) : B (l ++ m) = B l + B m := by
  induction l with
  | nil => simp [B]
  | cons x t ih => simp only [List.cons_append, B, ih]; omega
theorem BF_perm {l m : List Int} (h : l.Perm m) : B l = B m ∧ F l = F m := by
  induction h with
  | nil => exact ⟨rfl, rfl⟩
  | cons x _ ih => simp only [B, F]; omega
  | swap x y l => simp only [B, F]; omega
  | trans _ _ h1 h2 => exact ⟨h1.1.trans h2.1, h1.2.trans h2.2⟩
theorem chk_perm {l m : List Int} (h : l.Perm m) : chkL l = chkL m := by
  unfold chkL
  rw [h.length_eq, h.any_eq]
theorem ease_perm (l : List Int) : (easeS l).Perm l := List.filter_append_perm _ l
theorem legs_q (q : List Int) (hq : ∀ x ∈ q, ¬ 0 < x) : ∀ f, 0 ≤ f → B q = 0 ∧ ∀ e ∈ legsP f q, e ≤ f + F q := by
  induction q with
  | nil => intro f hf; exact ⟨rfl, by simp [legsP, F]⟩
  | cons x t ih =>
    intro f hf
    have hx := hq x List.mem_cons_self
    have hb := bf x
    have h0 := ih (fun y hy => hq y (List.mem_cons_of_mem _ hy)) (f + fet x) (by omega)
    have hfp := F_pos t
    have hbx : bro x = 0 := by unfold bro; rw [if_neg hx]
    refine ⟨by simp only [B]; omega, ?_⟩
    intro e he
    rw [legsP, List.mem_cons] at he
    simp only [F, B] at he ⊢
    rcases he with he | he
    · omega
    · have := h0.2 e he
      omega
theorem legs_pq (q : List Int) (hq : ∀ x ∈ q, ¬ 0 < x) (p : List Int) (hp : ∀ x ∈ p, 0 < x) : ∀ M, B (p ++ q) ≤ M → F (p ++ q) ≤ M → ∀ e ∈ legsP 0 (p ++ q), e ≤ M := by
  induction p with
  | nil =>
    intro M h1 h2 e he
    rw [List.nil_append] at *
    have := (legs_q q hq 0 (by omega)).2 e he
    omega
  | cons x t ih =>
    intro M h1 h2 e he
    have hx := hp x List.mem_cons_self
    have hfx : fet x = 0 := by unfold fet; rw [if_neg (by omega)]
    have hb := bf x
    rw [List.cons_append] at h1 h2 he
    rw [legsP, List.mem_cons] at he
    simp only [B, F] at h1 h2
    rcases he with he | he
    · simp only [B] at he; omega
    · rw [hfx, Int.add_zero] at he
      exact ih (fun y hy => hp y (List.mem_cons_of_mem _ hy)) M (by omega) (by omega) e he
theorem legs_last (l : List Int) : ∀ f, f + F l ∈ legsP f l := by
  induction l with
  | nil => intro f; simp [legsP, F]
  | cons x t ih =>
    intro f
    have := ih (f + fet x)
    rw [legsP, F, ← Int.add_assoc]
    exact List.mem_cons_of_mem _ this
theorem pk_ge (l : List Int) : B l ≤ pk (legsP 0 l) ∧ F l ≤ pk (legsP 0 l) := by
  have h := (fm_le (legsP 0 l) 0 (pk (legsP 0 l))).1 (Int.le_refl _)
  constructor
  · obtain ⟨t, ht⟩ := legs_head 0 l
    have := h.2 (0 + B l) (by rw [ht]; exact List.mem_cons_self)
    omega
  · have := h.2 _ (legs_last l 0)
    omega
theorem pk_ease (l m : List Int) (h : m.Perm l) : pk (legsP 0 (easeS l)) ≤ pk (legsP 0 m) := by
  have h1 := pk_ge m
  have h2 := BF_perm h
  have h3 := BF_perm (ease_perm l)
  have h4 := B_pos m
  refine (fm_le _ _ _).2 ⟨by omega, ?_⟩
  unfold easeS at h3 ⊢
  exact legs_pq _ (fun x hx => by simpa using (List.mem_filter.1 hx).2) _ (fun x hx => by simpa using (List.mem_filter.1 hx).2) _ (by omega) (by omega)
theorem rd_at (m : List Int) (p : Int) (h2 : p ≥ 0) (h3 : p < (m.length : Int)) : rd m p = m[p.toNat]'(by omega) := by simp [rd, show p.toNat < m.length by omega]
theorem le_l0 (l ps : List Int) (hl : l.length ≤ 100) (hps : ps.length ≤ 100) (d : Nat) : ∀ (i : Nat) (m : List Int), i + d = ps.length → m.Perm l → Ev (fun k => haulierlaw21_LoadEase.l0 k l (easeS l) m ps (ps.length : Int) (i : Int)) true := by
  induction d with
  | zero =>
    intro i m hi hm
    refine ev_succ ?_
    simp only [haulierlaw21_LoadEase.l0, if_neg (show ¬ (i : Int) < (ps.length : Int) by omega)]
    refine Ev.bind (lpeak_f _) (Ev.bind (lpeak_f _) (Ev.bind (lpeak_f _) ?_))
    have h1 := chk_perm (ease_perm l)
    have h2 := chk_perm hm
    unfold peakS
    rw [h1, h2]
    by_cases h : chkL l = 0
    · simp only [if_pos h, if_true, if_pos (pk_ease l l (List.Perm.refl _)), if_pos (pk_ease l m hm)]
      exact Ev.bind lalive_f (Ev.now _)
    · simp only [if_neg h, if_true]
      exact Ev.bind lalive_f (Ev.now _)
  | succ d ih =>
    intro i m hi hm
    have h := fun m hm => ih (i + 1) m (by omega) hm
    simp only [show (((i + 1 : Nat) : Int)) = (i : Int) + 1 from Int.natCast_add i 1] at h
    have hml := hm.length_eq
    refine ev_succ ?_
    simp only [haulierlaw21_LoadEase.l0, if_pos (show (i : Int) < (ps.length : Int) by omega), if_pos (show (0 : Int) ≤ (i : Int) by omega), w64 (x := (i : Int) + 1) (by omega) (by omega)]
    by_cases h1 : (i : Int) < (m.length : Int)
    · by_cases h2 : rd ps (i : Int) ≥ 0
      · by_cases h3 : rd ps (i : Int) < (m.length : Int)
        · simp only [if_pos h1, if_pos h2, if_pos h3, if_pos (show 0 ≤ rd ps (i : Int) from h2)]
          refine h _ ?_
          have e1 : rd m (i : Int) = m[i]'(by omega) := by simp [rd, show i < m.length by omega]
          have e2 : rd m (rd ps (i : Int)) = m[(rd ps (i : Int)).toNat]'(by omega) := rd_at m _ h2 h3
          rw [e1, e2, Int.toNat_natCast]
          exact (List.set_set_perm (by omega) (by omega)).trans hm
        · simp only [if_pos h1, if_pos h2, if_neg h3]
          exact h m hm
      · simp only [if_pos h1, if_neg h2]
        exact h m hm
    · simp only [if_neg h1]
      exact h m hm
theorem le_j0 (l ps : List Int) (z : Bool) (hz : z = false → l.length ≤ 100 ∧ ps.length ≤ 100) : Ev (fun k => haulierlaw21_LoadEase.j0 k l ps z) true := by
  refine ev_succ ?_
  simp only [haulierlaw21_LoadEase.j0]
  by_cases h : z = true
  · simp only [if_pos h]
    exact Ev.bind lalive_f (Ev.now _)
  · obtain ⟨h1, h2⟩ := hz (by simpa using h)
    simp only [if_neg h]
    refine Ev.bind (ease_f l h1) (Ev.bind (rease_f l h1) (Ev.bind (lsame_f _ (by rw [(ease_perm l).length_eq]; omega)) ?_))
    simp only [if_true, List.length_nil, Nat.zero_add, if_pos (show l.length < 17592186044416 by omega), List.nil_append]
    have := le_l0 l ps h1 h2 ps.length 0 l (by omega) (List.Perm.refl _)
    simpa using this
theorem LoadEase : haulierlaw21_LoadEase.Pure := by
  intro l ps _ _ _ _ _ _
  refine Ev.rounds ?_
  unfold haulierlaw21_LoadEase.f
  by_cases h : (l.length : Int) > 100
  · simp only [if_pos h]
    exact le_j0 l ps true (by simp)
  · simp only [if_neg h]
    exact le_j0 l ps _ (by simp; omega)


end Go.Proofs.Ythajccdaidhdkaa.Pure
