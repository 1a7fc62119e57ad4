/- Written by a program of this session: Go functions that the law OrderChecks reaches, as Lean functions, each with a proof that the Go code comes to just what it says; every input of the kinds that a contract names. -/
import Derived.Test.YtkedaiamhcgdkaaMOrderChecksx0
import Derived.Test.YtkedaiamhcgdkaaMOrderChecksx4
import Derived.Test.YtkedaiamhcgdkaaMOrderChecksx5
namespace Go.Proofs.Ytkedaiamhcgdkaa.MOrderChecks
open Go.RowKit Go.Proofs.YtkedaiamhcgdkaaW.PrintWords Go.Proofs.YtkedaiamhcgdkaaW.PrintLast Go.Proofs.YtkedaiamhcgdkaaW.PrintMore
attribute [local go_sem] max2_int min2_int max_two min_two max_three min_three max_four min_four   -- for this text's walks alone
set_option linter.unusedVariables false
set_option linter.unusedSimpArgs false
set_option linter.unnecessarySimpa false

/-! ### window_Check: function 28 (typed by hand) -/
def window_Check.p1 (x : S50) : Bool := !(decide (x.f0 < x.f1))
def window_Check.p2 (x : S50) : Bool := decide (x.f0 < 0) || decide (40320 < x.f1)
def window_Check.ixF (p : S50 → Bool) : List S50 → Int → Int
  | [], _ => -1
  | x :: t, i => if p x = true then i else window_Check.ixF p t (i + 1)
theorem window_Check.ixF_any (p : S50 → Bool) (l : List S50) : ∀ i : Int, 0 ≤ i → (l.any p = true → 0 ≤ window_Check.ixF p l i) ∧ (l.any p = false → window_Check.ixF p l i = -1) := by
  induction l with
  | nil => intro i _; simp [window_Check.ixF]
  | cons x t ih =>
    intro i hi
    rw [window_Check.ixF]
    cases h : p x
    · have := ih (i + 1) (by omega)
      simpa [h] using this
    · simp [h, hi]
set_option maxHeartbeats 8000000 in
set_option maxRecDepth 100000 in
theorem window_Check.c1 (x : S50) (r : Bool) (hp : window_Check.p1 x = r) (w : World) : Calls Try.prog 34 #[.agg #[.int .i64 x.f0, .int .i64 x.f1]] w fun e w' => e = .returned (.bool r) ∧ Below w.heap.size w w' := by
  subst hp
  unfold window_Check.p1
  generalize x.f0 = x0 at *
  generalize x.f1 = x1 at *
  go_enter Try.func34, Try.ntmps34
  go_wp2_with (first | ((with_reducible refine gate_dst (N := 1) rfl ?_); refine box_event ?hg (N := 1) ?hd (cs := #[.int .i64 x0, .int .i64 x1]) (t := 50) ?hr ?_; (case hd => rfl); (case hg => rfl); (case hr => first | (go_simp; done) | (go_simp; rfl)); intro gb hg_ wv hbox hb; have BB := Aside0.mk hbox; have HB := Aside0.mk hb; have hb0 : wv.cell? ⟨gb, 0, none⟩ = some (.int .i64 x0) := (blk_cell hbox 0).trans rfl; have hb1 : wv.cell? ⟨gb, 1, none⟩ = some (.int .i64 x1) := (blk_cell hbox 1).trans rfl; clear hb hbox hg_) | ((with_reducible refine gate_dst (N := 3) rfl ?_); refine wpList_load_row rfl 50 (.tmp 1) rfl gb rfl 50 #[.int .i64 x0, .int .i64 x1] (0, 0) _ BB.out Try.underlying50 rfl (by kernel_rfl) ?_) | (go_at_call 35; with_reducible refine (ival_Right.calls x0 x1 (decide (x0 < x1)) _ rfl).mono ?_; rintro e wv ⟨rfl, hb⟩; clear hb0 hb1; replace HB := Aside0.mk (below_step HB.out hb); clear hb))
  first | go_ret | go_ret2
  exact ⟨rfl, HB.out⟩
set_option maxHeartbeats 8000000 in
set_option maxRecDepth 100000 in
theorem window_Check.c2w (x0 x1 : Int) (w : World) (b : Bool) (hb : decide (x0 < 0) = b) : Calls Try.prog 36 #[.agg #[.int .i64 x0, .int .i64 x1]] w fun e w' => e = .returned (.bool (b || decide (40320 < x1))) ∧ Below w.heap.size w w' := by
  cases b
  · have h1 : (x0 < 0) = False := eq_false (of_decide_eq_false hb)
    clear hb
    go_enter Try.func36, Try.ntmps36
    go_wp2_with (first | ((with_reducible refine gate_dst (N := 1) rfl ?_); refine box_event ?hg (N := 1) ?hd (cs := #[.int .i64 x0, .int .i64 x1]) (t := 50) ?hr ?_; (case hd => rfl); (case hg => rfl); (case hr => first | (go_simp; done) | (go_simp; rfl)); intro gb hg_ wv hbox hb; have BB := Aside0.mk hbox; have HB := Aside0.mk hb; have hb0 : wv.cell? ⟨gb, 0, none⟩ = some (.int .i64 x0) := (blk_cell hbox 0).trans rfl; have hb1 : wv.cell? ⟨gb, 1, none⟩ = some (.int .i64 x1) := (blk_cell hbox 1).trans rfl; clear hb hbox hg_))
    first | go_ret | go_ret2
    exact ⟨by simp, HB.out⟩
  · have h1 : (x0 < 0) = True := eq_true (of_decide_eq_true hb)
    clear hb
    go_enter Try.func36, Try.ntmps36
    go_wp2_with (first | ((with_reducible refine gate_dst (N := 1) rfl ?_); refine box_event ?hg (N := 1) ?hd (cs := #[.int .i64 x0, .int .i64 x1]) (t := 50) ?hr ?_; (case hd => rfl); (case hg => rfl); (case hr => first | (go_simp; done) | (go_simp; rfl)); intro gb hg_ wv hbox hb; have BB := Aside0.mk hbox; have HB := Aside0.mk hb; have hb0 : wv.cell? ⟨gb, 0, none⟩ = some (.int .i64 x0) := (blk_cell hbox 0).trans rfl; have hb1 : wv.cell? ⟨gb, 1, none⟩ = some (.int .i64 x1) := (blk_cell hbox 1).trans rfl; clear hb hbox hg_))
    first | go_ret | go_ret2
    exact ⟨by simp, HB.out⟩
theorem window_Check.c2 (x : S50) (r : Bool) (hp : window_Check.p2 x = r) (w : World) : Calls Try.prog 36 #[.agg #[.int .i64 x.f0, .int .i64 x.f1]] w fun e w' => e = .returned (.bool r) ∧ Below w.heap.size w w' := by
  subst hp
  exact window_Check.c2w x.f0 x.f1 w _ rfl
set_option maxHeartbeats 8000000 in
set_option maxRecDepth 100000 in
theorem window_Check.ix1 (A0 : Option Addr) (c0 : Nat) (l0 : List S50) (w : World) (hr0 : Kd.C k50 w A0 l0.length l0) : Calls Try.prog 41 #[.slice A0 l0.length c0, .func (.func 34) #[] #[]] w fun e w' => e = .returned (.int .i64 (window_Check.ixF window_Check.p1 l0 0)) ∧ Below w.heap.size w w' := by
  have hmax : l0.length ≤ maxLen := hr0.2.1
  have HR0 := Aside0.mk hr0
  have HM := Aside0.mk hmax
  have HB := Aside0.mk (Below.refl w.heap.size w)
  obtain ⟨r, hr⟩ : ∃ r, r = window_Check.ixF window_Check.p1 l0 0 := ⟨_, rfl⟩
  rw [← hr]
  have HR := Aside0.mk hr.symm
  clear hr0 hmax hr
  go_enter Try.func41, Try.ntmps41
  go_wp2
  repeat (go_quiet (fail); try go_wp2)
  go_loopg [8] l0.length (fun kq v8 w' => ∃ i : Nat, v8 = .int .i64 (i : Int) ∧ Aside0 (i ≤ l0.length) ∧ Aside0 (l0.length - i ≤ kq) ∧ Aside0 (window_Check.ixF window_Check.p1 (l0.drop i) (i : Int) = r) ∧ Aside0 (Below w.heap.size w w'))
  case atStart => exact ⟨0, rfl, ⟨by omega⟩, ⟨by omega⟩, ⟨by simpa using HR.out⟩, HB⟩
  case round =>
    clear HB
    obtain ⟨i, rfl, HI, HG, HA, HB⟩ := hrel
    by_cases c1 : (i : Int) < (l0.length : Int)
    · have p1 : 0 ≤ (i : Int) := by omega
      have HIN := Aside0.mk (show i < l0.length by omega)
      have hd : l0.drop i = rd_T50 l0 (i : Int) :: l0.drop (i + 1) := by
        rw [List.drop_eq_getElem_cons HIN.out]
        simp [rd_T50, HIN.out]
      have HA1 := HA.out
      rw [hd, window_Check.ixF] at HA1
      obtain ⟨ad, e1, hx0, hx1⟩ := at_T50 HR0.out (i : Int) p1 c1
      cases e1
      rw [Int.toNat_natCast] at hx0 hx1
      replace hx0 := (HB.out.cell (World.block_lt_of_cell? w _ hx0)).trans hx0
      replace hx1 := (HB.out.cell (World.block_lt_of_cell? w _ hx1)).trans hx1
      have hw2 : wrap64 ((i : Int) + 1) = ((i + 1 : Nat) : Int) := by
        have := HM.out
        unfold wrap64
        unfold maxLen at *
        omega
      have HW2 := Aside0.mk hw2
      generalize rd_T50 l0 (i : Int) = x at *
      replace p1 := eq_true p1
      replace c1 := eq_true c1
      clear hd HA
      cases hp : window_Check.p1 x
      · rw [hp, if_neg (by simp)] at HA1
        have HA2 := Aside0.mk HA1
        clear HA1
        go_wp2_with (go_at_call 34; with_reducible refine (window_Check.c1 x false hp _).mono ?_; rintro e wv ⟨rfl, hb⟩; replace HB := Aside0.mk (below_step HB.out hb); clear hb)
        go_roundg (l0.length - (i + 1))
        case measure => have := HIN.out; have := HG.out; omega
        case rel => exact ⟨i + 1, by first | rfl | rw [HW2.out], ⟨by have := HIN.out; omega⟩, ⟨by omega⟩, ⟨by rw [Int.natCast_add]; exact HA2.out⟩, HB⟩
      · rw [hp, if_pos rfl] at HA1
        subst HA1
        go_wp2_with (go_at_call 34; with_reducible refine (window_Check.c1 x true hp _).mono ?_; rintro e wv ⟨rfl, hb⟩; replace HB := Aside0.mk (below_step HB.out hb); clear hb)
        first | go_ret | go_ret2
        exact ⟨rfl, HB.out⟩
    · obtain rfl : i = l0.length := by have := HI.out; omega
      replace c1 := eq_false c1
      have HA1 := HA.out
      rw [List.drop_length, window_Check.ixF] at HA1
      subst HA1
      clear HA HR
      go_wp2
      repeat (go_quiet (fail); try go_wp2)
      first | go_ret | go_ret2
      exact ⟨rfl, HB.out⟩
set_option maxHeartbeats 8000000 in
set_option maxRecDepth 100000 in
theorem window_Check.cf1 (A0 : Option Addr) (c0 : Nat) (l0 : List S50) (w : World) (hr0 : Kd.C k50 w A0 l0.length l0) (r : Bool) (hr : l0.any window_Check.p1 = r) : Calls Try.prog 37 #[.slice A0 l0.length c0, .func (.func 34) #[] #[]] w fun e w' => e = .returned (.bool r) ∧ Below w.heap.size w w' := by
  have HR0 := Aside0.mk hr0
  have hb := window_Check.ixF_any window_Check.p1 l0 0 (Int.le_refl _)
  obtain ⟨t, ht⟩ : ∃ t, t = window_Check.ixF window_Check.p1 l0 0 := ⟨_, rfl⟩
  rw [← ht] at hb
  have HIX := Aside0.mk (window_Check.ix1 A0 c0 l0 w HR0.out)
  rw [← ht] at HIX
  have hge : (t ≥ 0) = (r = true) := by
    cases r
    · exact propext ⟨fun h => by have := hb.2 hr; omega, fun h => by simp at h⟩
    · exact propext ⟨fun _ => rfl, fun _ => hb.1 hr⟩
  have hge2 : decide (t ≥ 0) = r := by simp only [hge, Bool.decide_eq_true]
  have hge3 : decide (0 ≤ t) = r := hge2
  clear hge hb ht hr0 hr
  go_enter Try.func37, Try.ntmps37
  go_wp2_with (go_at_call 41; with_reducible refine HIX.out.mono ?_; rintro e wv ⟨rfl, hb⟩; have HB := Aside0.mk hb; clear hb HIX)
  first | go_ret | go_ret2
  exact ⟨by first | rfl | simp [hge3], HB.out⟩
set_option maxHeartbeats 8000000 in
set_option maxRecDepth 100000 in
theorem window_Check.ix2 (A0 : Option Addr) (c0 : Nat) (l0 : List S50) (w : World) (hr0 : Kd.C k50 w A0 l0.length l0) : Calls Try.prog 41 #[.slice A0 l0.length c0, .func (.func 36) #[] #[]] w fun e w' => e = .returned (.int .i64 (window_Check.ixF window_Check.p2 l0 0)) ∧ Below w.heap.size w w' := by
  have hmax : l0.length ≤ maxLen := hr0.2.1
  have HR0 := Aside0.mk hr0
  have HM := Aside0.mk hmax
  have HB := Aside0.mk (Below.refl w.heap.size w)
  obtain ⟨r, hr⟩ : ∃ r, r = window_Check.ixF window_Check.p2 l0 0 := ⟨_, rfl⟩
  rw [← hr]
  have HR := Aside0.mk hr.symm
  clear hr0 hmax hr
  go_enter Try.func41, Try.ntmps41
  go_wp2
  repeat (go_quiet (fail); try go_wp2)
  go_loopg [8] l0.length (fun kq v8 w' => ∃ i : Nat, v8 = .int .i64 (i : Int) ∧ Aside0 (i ≤ l0.length) ∧ Aside0 (l0.length - i ≤ kq) ∧ Aside0 (window_Check.ixF window_Check.p2 (l0.drop i) (i : Int) = r) ∧ Aside0 (Below w.heap.size w w'))
  case atStart => exact ⟨0, rfl, ⟨by omega⟩, ⟨by omega⟩, ⟨by simpa using HR.out⟩, HB⟩
  case round =>
    clear HB
    obtain ⟨i, rfl, HI, HG, HA, HB⟩ := hrel
    by_cases c1 : (i : Int) < (l0.length : Int)
    · have p1 : 0 ≤ (i : Int) := by omega
      have HIN := Aside0.mk (show i < l0.length by omega)
      have hd : l0.drop i = rd_T50 l0 (i : Int) :: l0.drop (i + 1) := by
        rw [List.drop_eq_getElem_cons HIN.out]
        simp [rd_T50, HIN.out]
      have HA1 := HA.out
      rw [hd, window_Check.ixF] at HA1
      obtain ⟨ad, e1, hx0, hx1⟩ := at_T50 HR0.out (i : Int) p1 c1
      cases e1
      rw [Int.toNat_natCast] at hx0 hx1
      replace hx0 := (HB.out.cell (World.block_lt_of_cell? w _ hx0)).trans hx0
      replace hx1 := (HB.out.cell (World.block_lt_of_cell? w _ hx1)).trans hx1
      have hw2 : wrap64 ((i : Int) + 1) = ((i + 1 : Nat) : Int) := by
        have := HM.out
        unfold wrap64
        unfold maxLen at *
        omega
      have HW2 := Aside0.mk hw2
      generalize rd_T50 l0 (i : Int) = x at *
      replace p1 := eq_true p1
      replace c1 := eq_true c1
      clear hd HA
      cases hp : window_Check.p2 x
      · rw [hp, if_neg (by simp)] at HA1
        have HA2 := Aside0.mk HA1
        clear HA1
        go_wp2_with (go_at_call 36; with_reducible refine (window_Check.c2 x false hp _).mono ?_; rintro e wv ⟨rfl, hb⟩; replace HB := Aside0.mk (below_step HB.out hb); clear hb)
        go_roundg (l0.length - (i + 1))
        case measure => have := HIN.out; have := HG.out; omega
        case rel => exact ⟨i + 1, by first | rfl | rw [HW2.out], ⟨by have := HIN.out; omega⟩, ⟨by omega⟩, ⟨by rw [Int.natCast_add]; exact HA2.out⟩, HB⟩
      · rw [hp, if_pos rfl] at HA1
        subst HA1
        go_wp2_with (go_at_call 36; with_reducible refine (window_Check.c2 x true hp _).mono ?_; rintro e wv ⟨rfl, hb⟩; replace HB := Aside0.mk (below_step HB.out hb); clear hb)
        first | go_ret | go_ret2
        exact ⟨rfl, HB.out⟩
    · obtain rfl : i = l0.length := by have := HI.out; omega
      replace c1 := eq_false c1
      have HA1 := HA.out
      rw [List.drop_length, window_Check.ixF] at HA1
      subst HA1
      clear HA HR
      go_wp2
      repeat (go_quiet (fail); try go_wp2)
      first | go_ret | go_ret2
      exact ⟨rfl, HB.out⟩
set_option maxHeartbeats 8000000 in
set_option maxRecDepth 100000 in
theorem window_Check.cf2 (A0 : Option Addr) (c0 : Nat) (l0 : List S50) (w : World) (hr0 : Kd.C k50 w A0 l0.length l0) (r : Bool) (hr : l0.any window_Check.p2 = r) : Calls Try.prog 37 #[.slice A0 l0.length c0, .func (.func 36) #[] #[]] w fun e w' => e = .returned (.bool r) ∧ Below w.heap.size w w' := by
  have HR0 := Aside0.mk hr0
  have hb := window_Check.ixF_any window_Check.p2 l0 0 (Int.le_refl _)
  obtain ⟨t, ht⟩ : ∃ t, t = window_Check.ixF window_Check.p2 l0 0 := ⟨_, rfl⟩
  rw [← ht] at hb
  have HIX := Aside0.mk (window_Check.ix2 A0 c0 l0 w HR0.out)
  rw [← ht] at HIX
  have hge : (t ≥ 0) = (r = true) := by
    cases r
    · exact propext ⟨fun h => by have := hb.2 hr; omega, fun h => by simp at h⟩
    · exact propext ⟨fun _ => rfl, fun _ => hb.1 hr⟩
  have hge2 : decide (t ≥ 0) = r := by simp only [hge, Bool.decide_eq_true]
  have hge3 : decide (0 ≤ t) = r := hge2
  clear hge hb ht hr0 hr
  go_enter Try.func37, Try.ntmps37
  go_wp2_with (go_at_call 41; with_reducible refine HIX.out.mono ?_; rintro e wv ⟨rfl, hb⟩; have HB := Aside0.mk hb; clear hb HIX)
  first | go_ret | go_ret2
  exact ⟨by first | rfl | simp [hge3], HB.out⟩
set_option maxHeartbeats 8000000 in
set_option maxRecDepth 100000 in
theorem window_Check.w13 (A0 : Option Addr) (c0 : Nat) (l0 : List S50) (w : World) (hr0 : Kd.C k50 w A0 l0.length l0) (hc0 : l0.length ≤ c0) (hl : l0.length = 0) : Calls Try.prog 28 #[.slice A0 l0.length c0] w fun e w' => e = .returned (.int .i64 13) ∧ Below w.heap.size w w' := by
  have HR0 := Aside0.mk hr0
  have HC0 := Aside0.mk hc0
  have HB := Aside0.mk (Below.refl w.heap.size w)
  have ha : ((l0.length : Int) = 0) = True := eq_true (by omega)
  have ha2 : ((l0.length : Int) == 0) = true := beq_iff_eq.mpr (by omega)
  clear hr0 hc0
  go_enter Try.func28, Try.ntmps28
  go_wp2_with (first | fail)
  first | go_ret | go_ret2
  exact ⟨rfl, HB.out⟩
set_option maxHeartbeats 8000000 in
set_option maxRecDepth 100000 in
theorem window_Check.w12 (A0 : Option Addr) (c0 : Nat) (l0 : List S50) (w : World) (hr0 : Kd.C k50 w A0 l0.length l0) (hc0 : l0.length ≤ c0) (hl : ¬ l0.length = 0) (hl8 : 8 < l0.length) : Calls Try.prog 28 #[.slice A0 l0.length c0] w fun e w' => e = .returned (.int .i64 12) ∧ Below w.heap.size w w' := by
  have HR0 := Aside0.mk hr0
  have HC0 := Aside0.mk hc0
  have HB := Aside0.mk (Below.refl w.heap.size w)
  have ha : ((l0.length : Int) = 0) = False := eq_false (by omega)
  have ha2 : ((l0.length : Int) == 0) = false := beq_eq_false_iff_ne.mpr (by omega)
  have hb_ : ((8 : Int) < (l0.length : Int)) = True := eq_true (by omega)
  clear hr0 hc0
  go_enter Try.func28, Try.ntmps28
  go_wp2_with (first | fail)
  first | go_ret | go_ret2
  exact ⟨rfl, HB.out⟩
set_option maxHeartbeats 8000000 in
set_option maxRecDepth 100000 in
theorem window_Check.w3 (A0 : Option Addr) (c0 : Nat) (l0 : List S50) (w : World) (hr0 : Kd.C k50 w A0 l0.length l0) (hc0 : l0.length ≤ c0) (hl : ¬ l0.length = 0) (hl8 : ¬ 8 < l0.length) (h1 : l0.any window_Check.p1 = true) : Calls Try.prog 28 #[.slice A0 l0.length c0] w fun e w' => e = .returned (.int .i64 3) ∧ Below w.heap.size w w' := by
  have HR0 := Aside0.mk hr0
  have HC0 := Aside0.mk hc0
  have HB := Aside0.mk (Below.refl w.heap.size w)
  have ha : ((l0.length : Int) = 0) = False := eq_false (by omega)
  have ha2 : ((l0.length : Int) == 0) = false := beq_eq_false_iff_ne.mpr (by omega)
  have hb_ : ((8 : Int) < (l0.length : Int)) = False := eq_false (by omega)
  clear hr0 hc0
  go_enter Try.func28, Try.ntmps28
  go_wp2_with (first | (go_at_call 37; with_reducible refine (window_Check.cf1 A0 c0 l0 _ (Kd.C_below HR0.out HB.out) true h1).mono ?_; rintro e wv ⟨rfl, hb⟩; replace HB := Aside0.mk (below_step HB.out hb); clear hb))
  first | go_ret | go_ret2
  exact ⟨rfl, HB.out⟩
set_option maxHeartbeats 8000000 in
set_option maxRecDepth 100000 in
theorem window_Check.w4 (A0 : Option Addr) (c0 : Nat) (l0 : List S50) (w : World) (hr0 : Kd.C k50 w A0 l0.length l0) (hc0 : l0.length ≤ c0) (hl : ¬ l0.length = 0) (hl8 : ¬ 8 < l0.length) (h1 : l0.any window_Check.p1 = false) (h2 : l0.any window_Check.p2 = true) : Calls Try.prog 28 #[.slice A0 l0.length c0] w fun e w' => e = .returned (.int .i64 4) ∧ Below w.heap.size w w' := by
  have HR0 := Aside0.mk hr0
  have HC0 := Aside0.mk hc0
  have HB := Aside0.mk (Below.refl w.heap.size w)
  have ha : ((l0.length : Int) = 0) = False := eq_false (by omega)
  have ha2 : ((l0.length : Int) == 0) = false := beq_eq_false_iff_ne.mpr (by omega)
  have hb_ : ((8 : Int) < (l0.length : Int)) = False := eq_false (by omega)
  clear hr0 hc0
  go_enter Try.func28, Try.ntmps28
  go_wp2_with (first | (go_at_call 37; (first | (with_reducible refine (window_Check.cf1 A0 c0 l0 _ (Kd.C_below HR0.out HB.out) false h1).mono ?_) | (with_reducible refine (window_Check.cf2 A0 c0 l0 _ (Kd.C_below HR0.out HB.out) true h2).mono ?_)); rintro e wv ⟨rfl, hb⟩; replace HB := Aside0.mk (below_step HB.out hb); clear hb))
  first | go_ret | go_ret2
  exact ⟨rfl, HB.out⟩
set_option maxHeartbeats 8000000 in
set_option maxRecDepth 100000 in
theorem window_Check.w6 (A0 : Option Addr) (c0 : Nat) (l0 : List S50) (w : World) (hr0 : Kd.C k50 w A0 l0.length l0) (hc0 : l0.length ≤ c0) (k : Nat) (hl : ¬ l0.length = 0) (hl8 : ¬ 8 < l0.length) (h1 : l0.any window_Check.p1 = false) (h2 : l0.any window_Check.p2 = false) (hv : ivals_Right.f k l0 = some false) : Calls Try.prog 28 #[.slice A0 l0.length c0] w fun e w' => e = .returned (.int .i64 6) ∧ Below w.heap.size w w' := by
  have HR0 := Aside0.mk hr0
  have HC0 := Aside0.mk hc0
  have HB := Aside0.mk (Below.refl w.heap.size w)
  have ha : ((l0.length : Int) = 0) = False := eq_false (by omega)
  have ha2 : ((l0.length : Int) == 0) = false := beq_eq_false_iff_ne.mpr (by omega)
  have hb_ : ((8 : Int) < (l0.length : Int)) = False := eq_false (by omega)
  clear hr0 hc0
  go_enter Try.func28, Try.ntmps28
  go_wp2_with (first | (go_at_call 37; (first | (with_reducible refine (window_Check.cf1 A0 c0 l0 _ (Kd.C_below HR0.out HB.out) false h1).mono ?_) | (with_reducible refine (window_Check.cf2 A0 c0 l0 _ (Kd.C_below HR0.out HB.out) false h2).mono ?_)); rintro e wv ⟨rfl, hb⟩; replace HB := Aside0.mk (below_step HB.out hb); clear hb) | (go_at_call 38; with_reducible refine (ivals_Right.calls k A0 c0 l0 false _ (Kd.C_below HR0.out HB.out) HC0.out hv).mono ?_; rintro e wv ⟨rfl, hb⟩; replace HB := Aside0.mk (below_step HB.out hb); clear hb))
  first | go_ret | go_ret2
  exact ⟨rfl, HB.out⟩
set_option maxHeartbeats 8000000 in
set_option maxRecDepth 100000 in
theorem window_Check.w0 (A0 : Option Addr) (c0 : Nat) (l0 : List S50) (w : World) (hr0 : Kd.C k50 w A0 l0.length l0) (hc0 : l0.length ≤ c0) (k : Nat) (hl : ¬ l0.length = 0) (hl8 : ¬ 8 < l0.length) (h1 : l0.any window_Check.p1 = false) (h2 : l0.any window_Check.p2 = false) (hv : ivals_Right.f k l0 = some true) : Calls Try.prog 28 #[.slice A0 l0.length c0] w fun e w' => e = .returned (.int .i64 0) ∧ Below w.heap.size w w' := by
  have HR0 := Aside0.mk hr0
  have HC0 := Aside0.mk hc0
  have HB := Aside0.mk (Below.refl w.heap.size w)
  have ha : ((l0.length : Int) = 0) = False := eq_false (by omega)
  have ha2 : ((l0.length : Int) == 0) = false := beq_eq_false_iff_ne.mpr (by omega)
  have hb_ : ((8 : Int) < (l0.length : Int)) = False := eq_false (by omega)
  clear hr0 hc0
  go_enter Try.func28, Try.ntmps28
  go_wp2_with (first | (go_at_call 37; (first | (with_reducible refine (window_Check.cf1 A0 c0 l0 _ (Kd.C_below HR0.out HB.out) false h1).mono ?_) | (with_reducible refine (window_Check.cf2 A0 c0 l0 _ (Kd.C_below HR0.out HB.out) false h2).mono ?_)); rintro e wv ⟨rfl, hb⟩; replace HB := Aside0.mk (below_step HB.out hb); clear hb) | (go_at_call 38; with_reducible refine (ivals_Right.calls k A0 c0 l0 true _ (Kd.C_below HR0.out HB.out) HC0.out hv).mono ?_; rintro e wv ⟨rfl, hb⟩; replace HB := Aside0.mk (below_step HB.out hb); clear hb))
  first | go_ret | go_ret2
  exact ⟨rfl, HB.out⟩
def window_Check.f (k : Nat) (l0 : List S50) : Option Int := if l0.length = 0 then some 13 else if 8 < l0.length then some 12 else if l0.any window_Check.p1 = true then some 3 else if l0.any window_Check.p2 = true then some 4 else (ivals_Right.f k l0).bind fun b => some (if b = true then 0 else 6)
theorem window_Check.mono : ∀ l0 k, LeO (window_Check.f k l0) (window_Check.f (k + 1) l0) := by
  intro l0 k
  unfold window_Check.f
  exact LeO.ite (LeO.refl _) (LeO.ite (LeO.refl _) (LeO.ite (LeO.refl _) (LeO.ite (LeO.refl _) (LeO.bind (ivals_Right.mono _ _) (fun _ => LeO.refl _)))))
theorem window_Check.calls (k : Nat) (A0 : Option Addr) (c0 : Nat) (l0 : List S50) (r : Int) (w : World) (hr0 : Kd.C k50 w A0 l0.length l0) (hc0 : l0.length ≤ c0) (h : window_Check.f k l0 = some r) :
    Calls Try.prog 28 #[.slice A0 l0.length c0] w fun e w' => e = .returned (.int .i64 r) ∧ Below w.heap.size w w' := by
  unfold window_Check.f at h
  by_cases hl : l0.length = 0
  · rw [if_pos hl, Option.some.injEq] at h
    subst h
    exact window_Check.w13 A0 c0 l0 w hr0 hc0 hl
  rw [if_neg hl] at h
  by_cases h8 : 8 < l0.length
  · rw [if_pos h8, Option.some.injEq] at h
    subst h
    exact window_Check.w12 A0 c0 l0 w hr0 hc0 hl h8
  rw [if_neg h8] at h
  cases h1 : l0.any window_Check.p1
  · rw [h1, if_neg (by simp)] at h
    cases h2 : l0.any window_Check.p2
    · rw [h2, if_neg (by simp)] at h
      obtain ⟨b, hb, h⟩ := Option.bind_eq_some_iff.mp h
      cases b
      · obtain rfl := Option.some.inj h
        exact window_Check.w6 A0 c0 l0 w hr0 hc0 k hl h8 h1 h2 hb
      · obtain rfl := Option.some.inj h
        exact window_Check.w0 A0 c0 l0 w hr0 hc0 k hl h8 h1 h2 hb
    · rw [h2, if_pos rfl, Option.some.injEq] at h
      subst h
      exact window_Check.w4 A0 c0 l0 w hr0 hc0 hl h8 h1 h2
  · rw [h1, if_pos rfl, Option.some.injEq] at h
    subst h
    exact window_Check.w3 A0 c0 l0 w hr0 hc0 hl h8 h1

/-! ### order_Check: function 14 -/
def order_Check.j0 : Nat → Bool → Int → Int → Int → Int → List (S50) → Option (Int)
  | 0, _, _, _, _, _, _ => none
  | k + 1, x10, x124000, x124001, x124002, x124003, x124004 => if x10 = true then (some 10) else ((order_within.f x124002 (-1000000) 1000000).bind fun t125 => (if t125 = true then ((order_within.f x124003 1 1440).bind fun t126 => (if t126 = true then ((window_Check.f k x124004).bind fun t127 => (some t127)) else (some 4))) else (some 4)))
def order_Check.f (k : Nat) (a0_0 : Int) (a0_1 : Int) (a0_2 : Int) (a0_3 : Int) (l0_4 : List (S50)) (a1 : Int) : Option (Int) := (order_within.f a0_0 1 999999).bind fun t124 => (if t124 = true then (if a0_1 < 0 then (order_Check.j0 k true a0_0 a0_1 a0_2 a0_3 l0_4) else (order_Check.j0 k (decide (a0_1 ≥ a1)) a0_0 a0_1 a0_2 a0_3 l0_4)) else (some 1))
theorem order_Check.mono_l : ∀ k, (∀ y0 y1 y2 y3 y4 y5, LeO (order_Check.j0 k y0 y1 y2 y3 y4 y5) (order_Check.j0 (k + 1) y0 y1 y2 y3 y4 y5))
  | 0 => fun _ _ _ _ _ _ r h => by simp [order_Check.j0] at h
  | k + 1 => by
    have ih0 := order_Check.mono_l k
    · intro y0 y1 y2 y3 y4 y5
      unfold order_Check.j0
      repeat' first
      | (with_reducible exact ih0 _ _ _ _ _ _)
      | (with_reducible exact window_Check.mono _ _)
      | (with_reducible exact LeO.refl _)
      | (with_reducible exact LeO.none _)
      | (with_reducible refine LeO.ite ?_ ?_)
      | (with_reducible refine LeO.bind ?_ (fun _ => ?_))
      | exact ih0 _ _ _ _ _ _
      | exact window_Check.mono _ _
      | exact LeO.none _
      | refine LeO.ite ?_ ?_
      | refine LeO.bind ?_ (fun _ => ?_)
theorem order_Check.mono : ∀ a0 a1 a2 a3 a4 a5 k, LeO (order_Check.f k a0 a1 a2 a3 a4 a5) (order_Check.f (k + 1) a0 a1 a2 a3 a4 a5) := by
  intro a0 a1 a2 a3 a4 a5 k
  have ih0 := order_Check.mono_l k
  unfold order_Check.f
  repeat' first
      | (with_reducible exact ih0 _ _ _ _ _ _)
      | (with_reducible exact window_Check.mono _ _)
      | (with_reducible exact LeO.refl _)
      | (with_reducible exact LeO.none _)
      | (with_reducible refine LeO.ite ?_ ?_)
      | (with_reducible refine LeO.bind ?_ (fun _ => ?_))
      | exact ih0 _ _ _ _ _ _
      | exact window_Check.mono _ _
      | exact LeO.none _
      | refine LeO.ite ?_ ?_
      | refine LeO.bind ?_ (fun _ => ?_)
set_option maxHeartbeats 8000000 in
set_option maxRecDepth 100000 in
theorem order_Check.calls (k : Nat) (a0_0 : Int) (a0_1 : Int) (a0_2 : Int) (a0_3 : Int) (A0_4 : Option Addr) (c0_4 : Nat) (l0_4 : List (S50)) (a1 : Int) (r : Int) (w : World) (hr0_4 : Kd.C k50 w A0_4 l0_4.length l0_4) (hc0_4 : l0_4.length ≤ c0_4) (h : order_Check.f k a0_0 a0_1 a0_2 a0_3 l0_4 a1 = some r) :
    Calls Try.prog 14 #[.agg #[.int .i64 a0_0, .int .i64 a0_1, .int .i64 a0_2, .int .i64 a0_3, .slice A0_4 l0_4.length c0_4], .int .i64 a1] w fun e w' => e = .returned (.int .i64 r) ∧ Below w.heap.size w w' := by
  have hu25 := Try.underlying25
  have HR0_4 := Aside0.mk hr0_4
  have HC0_4 := Aside0.mk hc0_4
  clear hr0_4 hc0_4
  have HB := Aside0.mk (Below.refl w.heap.size w)
  have H : ((order_within.f a0_0 1 999999).bind fun t124 => (if t124 = true then (if a0_1 < 0 then (order_Check.j0 k true a0_0 a0_1 a0_2 a0_3 l0_4) else (order_Check.j0 k (decide (a0_1 ≥ a1)) a0_0 a0_1 a0_2 a0_3 l0_4)) else (some 1))) = some r := h
  clear h
  replace H := Option.bind_eq_some_iff.mp H
  obtain ⟨t124, A30, H⟩ := H
  replace H : (if t124 = true then (if a0_1 < 0 then (order_Check.j0 k true a0_0 a0_1 a0_2 a0_3 l0_4) else (order_Check.j0 k (decide (a0_1 ≥ a1)) a0_0 a0_1 a0_2 a0_3 l0_4)) else (some 1)) = some r := H
  have A3 := Aside0.mk A30
  clear A30
  by_cases c4 : t124 = true
  · subst c4
    have H1 : (if a0_1 < 0 then (order_Check.j0 k true a0_0 a0_1 a0_2 a0_3 l0_4) else (order_Check.j0 k (decide (a0_1 ≥ a1)) a0_0 a0_1 a0_2 a0_3 l0_4)) = some r := by rw [if_pos rfl] at H; exact H
    clear H
    have H := H1
    clear H1
    have HC5 := Aside0.mk H
    clear H
    go_enter Try.func14, Try.ntmps14
    go_upto_region 3 with (first | ((with_reducible refine gate_dst (N := 2) rfl ?_); refine box_event ?hg (N := 2) ?hd (cs := #[.int .i64 a0_0, .int .i64 a0_1, .int .i64 a0_2, .int .i64 a0_3, .slice A0_4 l0_4.length c0_4]) (t := 25) ?hr ?_; (case hd => rfl); (case hg => rfl); (case hr => first | (go_simp; done) | (go_simp; rfl)); intro gb123 hg w6 hbox hb; have n0_ := Aside0.mk (below_step (by repeat (first | (with_reducible first | exact HB.out | apply below_alloc | apply pw_below_drewN | apply below_drew1) | exact HB.out)) hb); have n1_ := Aside0.mk (hbox); have n2_ := Aside0.mk ((by rw [hg]; exact (below_size (by repeat (first | (with_reducible first | exact HB.out | apply below_alloc | apply pw_below_drewN | apply below_drew1) | exact HB.out))) : w.heap.size ≤ gb123)); have n3_ := Aside0.mk ((by rw [hg]; exact (below_size (by repeat (first | (with_reducible first | exact HB.out | apply below_alloc | apply pw_below_drewN | apply below_drew1) | exact HB.out))) : w.heap.size ≤ gb123)); clear HB; have HB := n0_; have BK123 := n1_; have GW123 := n2_; have GE123 := n3_; clear n0_ n1_ n2_ n3_; clear hb hbox hg; have hcz7_0 : w6.cell? ⟨gb123, 0, none⟩ = some (.int .i64 a0_0) := (blk_cell BK123.out 0).trans rfl; have hcz7_1 : w6.cell? ⟨gb123, 1, none⟩ = some (.int .i64 a0_1) := (blk_cell BK123.out 1).trans rfl; have hcz7_2 : w6.cell? ⟨gb123, 2, none⟩ = some (.int .i64 a0_2) := (blk_cell BK123.out 2).trans rfl; have hcz7_3 : w6.cell? ⟨gb123, 3, none⟩ = some (.int .i64 a0_3) := (blk_cell BK123.out 3).trans rfl; have hcz7_4 : w6.cell? ⟨gb123, 4, none⟩ = some (.slice A0_4 l0_4.length c0_4) := (blk_cell BK123.out 4).trans rfl; have hfz7_0 := blk_frozen BK123.out 0; have hfz7_1 := blk_frozen BK123.out 1; have hfz7_2 := blk_frozen BK123.out 2; have hfz7_3 := blk_frozen BK123.out 3; have hfz7_4 := blk_frozen BK123.out 4) | ((with_reducible refine gate_callee (f := 27) rfl ?_); refine goesL_ (some 8) rfl rfl Try.func27 (by kernel_rfl) rfl #[.int .i64 a0_0, .int .i64 1, .int .i64 999999] rfl (by (try simp only [List.map_toArray, List.map_cons, List.map_nil]); first | done | rfl | (simp only [List.length_drop, List.length_take]; rfl)) ?_; (with_reducible refine (order_within.calls a0_0 1 999999 true _ A3.out).mono ?_); rintro e w' ⟨rfl, ⟨nd, rfl⟩⟩; refine ⟨_, rfl, ?_⟩))
    (try simp only [Act.put, List.setIfInBounds_toArray, List.set_cons_zero, List.set_cons_succ])
    go_cut [10] (fun v10 wc => ∃ (kq : Nat) (x10_4 : Bool), v10 = .bool x10_4 ∧ Aside0 (order_Check.j0 kq x10_4 a0_0 a0_1 a0_2 a0_3 l0_4 = some r) ∧ Aside0 (kq ≤ k) ∧ Aside0 (wc.heap[gb123]? = some (.cells #[.int .i64 a0_0, .int .i64 a0_1, .int .i64 a0_2, .int .i64 a0_3, (.slice A0_4 l0_4.length c0_4)] 25 (0, 0))) ∧ Aside0 (Below w.heap.size w wc))
    case first =>
      have H := HC5.out
      clear HC5
      by_cases c8 : a0_1 < 0
      · rw [if_pos c8] at H
        have c8b0 : decide (a0_1 < 0) = true := decide_eq_true c8
        clear c8
        (first | rw [c8b0] | (simp only [i64_w, i32_w]; rw [c8b0]) | skip)
        have H' := Aside0.mk H
        clear H
        have hcz9_0 : w6.cell? ⟨gb123, 0, none⟩ = some (.int .i64 a0_0) := (blk_cell BK123.out 0).trans rfl
        have hcz9_1 : w6.cell? ⟨gb123, 1, none⟩ = some (.int .i64 a0_1) := (blk_cell BK123.out 1).trans rfl
        have hcz9_2 : w6.cell? ⟨gb123, 2, none⟩ = some (.int .i64 a0_2) := (blk_cell BK123.out 2).trans rfl
        have hcz9_3 : w6.cell? ⟨gb123, 3, none⟩ = some (.int .i64 a0_3) := (blk_cell BK123.out 3).trans rfl
        have hcz9_4 : w6.cell? ⟨gb123, 4, none⟩ = some (.slice A0_4 l0_4.length c0_4) := (blk_cell BK123.out 4).trans rfl
        have hfz9_0 := blk_frozen BK123.out 0
        have hfz9_1 := blk_frozen BK123.out 1
        have hfz9_2 := blk_frozen BK123.out 2
        have hfz9_3 := blk_frozen BK123.out 3
        have hfz9_4 := blk_frozen BK123.out 4
        go_wp2
        go_meet
        case rel => exact ⟨_, (true), (by first | rfl | (simp; done) | (simp [*]; done)), H', ⟨by first | omega | exact Nat.le_refl _⟩, ⟨by (with_reducible repeat (first | refine blk_drewN ?_ _ | refine blk_drew ?_ | refine blk_alloc ?_ _)); exact BK123.out⟩, ⟨by repeat (first | (with_reducible first | exact HB.out | apply below_alloc | apply pw_below_drewN | apply below_drew1 | refine below_set ?_ GE123.out) | exact HB.out)⟩⟩
      · rw [if_neg c8] at H
        have c8b0 : decide (a0_1 < 0) = false := decide_eq_false c8
        clear c8
        (first | rw [c8b0] | (simp only [i64_w, i32_w]; rw [c8b0]) | skip)
        have H' := Aside0.mk H
        clear H
        have hcz10_0 : w6.cell? ⟨gb123, 0, none⟩ = some (.int .i64 a0_0) := (blk_cell BK123.out 0).trans rfl
        have hcz10_1 : w6.cell? ⟨gb123, 1, none⟩ = some (.int .i64 a0_1) := (blk_cell BK123.out 1).trans rfl
        have hcz10_2 : w6.cell? ⟨gb123, 2, none⟩ = some (.int .i64 a0_2) := (blk_cell BK123.out 2).trans rfl
        have hcz10_3 : w6.cell? ⟨gb123, 3, none⟩ = some (.int .i64 a0_3) := (blk_cell BK123.out 3).trans rfl
        have hcz10_4 : w6.cell? ⟨gb123, 4, none⟩ = some (.slice A0_4 l0_4.length c0_4) := (blk_cell BK123.out 4).trans rfl
        have hfz10_0 := blk_frozen BK123.out 0
        have hfz10_1 := blk_frozen BK123.out 1
        have hfz10_2 := blk_frozen BK123.out 2
        have hfz10_3 := blk_frozen BK123.out 3
        have hfz10_4 := blk_frozen BK123.out 4
        go_wp2
        go_meet
        case rel => exact ⟨_, (decide (a0_1 ≥ a1)), (by first | rfl | (simp; done) | (simp [*]; done)), H', ⟨by first | omega | exact Nat.le_refl _⟩, ⟨by (with_reducible repeat (first | refine blk_drewN ?_ _ | refine blk_drew ?_ | refine blk_alloc ?_ _)); exact BK123.out⟩, ⟨by repeat (first | (with_reducible first | exact HB.out | apply below_alloc | apply pw_below_drewN | apply below_drew1 | refine below_set ?_ GE123.out) | exact HB.out)⟩⟩
    case rest =>
      clear HC5
      try clear c1
      try clear c2
      try clear p2
      try clear c4
      try clear c8
      try clear c8b0
      try clear hcz10_0
      try clear hcz10_1
      try clear hcz10_2
      try clear hcz10_3
      try clear hcz10_4
      try clear hcz7_0
      try clear hcz7_1
      try clear hcz7_2
      try clear hcz7_3
      try clear hcz7_4
      try clear hcz9_0
      try clear hcz9_1
      try clear hcz9_2
      try clear hcz9_3
      try clear hcz9_4
      try clear hfz10_0
      try clear hfz10_1
      try clear hfz10_2
      try clear hfz10_3
      try clear hfz10_4
      try clear hfz7_0
      try clear hfz7_1
      try clear hfz7_2
      try clear hfz7_3
      try clear hfz7_4
      try clear hfz9_0
      try clear hfz9_1
      try clear hfz9_2
      try clear hfz9_3
      try clear hfz9_4
      obtain ⟨kq, x10_4, rfl, HA, HJ4, BK123, HB⟩ := hcut
      cases kq with
      | zero => exact absurd HA.out (by simp [order_Check.j0])
      | succ kj4 =>
        have H := HA.out
        clear HA
        simp only [order_Check.j0] at H
        by_cases c11 : x10_4 = true
        · subst c11
          have H1 : (some 10) = some r := by rw [if_pos rfl] at H; exact H
          clear H
          have H := H1
          clear H1
          obtain rfl := Option.some.inj H
          go_wp2
          go_ret
          exact ⟨by first | rfl | (simp [errW_none, errW_some] <;> rfl) | (simp [*, errW_none, errW_some] <;> rfl), by repeat (first | (with_reducible first | exact HB.out | apply below_alloc | apply pw_below_drewN | apply below_drew1 | refine below_set ?_ GE123.out) | exact HB.out)⟩
        · replace c11 := Bool.eq_false_iff.mpr c11
          subst c11
          have H1 : ((order_within.f a0_2 (-1000000) 1000000).bind fun t125 => (if t125 = true then ((order_within.f a0_3 1 1440).bind fun t126 => (if t126 = true then ((window_Check.f kj4 l0_4).bind fun t127 => (some t127)) else (some 4))) else (some 4))) = some r := by rw [if_neg (show ¬ (false = true) by decide)] at H; exact H
          clear H
          have H := H1
          clear H1
          replace H := Option.bind_eq_some_iff.mp H
          obtain ⟨t125, A120, H⟩ := H
          replace H : (if t125 = true then ((order_within.f a0_3 1 1440).bind fun t126 => (if t126 = true then ((window_Check.f kj4 l0_4).bind fun t127 => (some t127)) else (some 4))) else (some 4)) = some r := H
          have A12 := Aside0.mk A120
          clear A120
          by_cases c13 : t125 = true
          · subst c13
            have H1 : ((order_within.f a0_3 1 1440).bind fun t126 => (if t126 = true then ((window_Check.f kj4 l0_4).bind fun t127 => (some t127)) else (some 4))) = some r := by rw [if_pos rfl] at H; exact H
            clear H
            have H := H1
            clear H1
            replace H := Option.bind_eq_some_iff.mp H
            obtain ⟨t126, A140, H⟩ := H
            replace H : (if t126 = true then ((window_Check.f kj4 l0_4).bind fun t127 => (some t127)) else (some 4)) = some r := H
            have A14 := Aside0.mk A140
            clear A140
            by_cases c15 : t126 = true
            · subst c15
              have H1 : ((window_Check.f kj4 l0_4).bind fun t127 => (some t127)) = some r := by rw [if_pos rfl] at H; exact H
              clear H
              have H := H1
              clear H1
              replace H := Option.bind_eq_some_iff.mp H
              obtain ⟨t127, A160, H⟩ := H
              replace H : (some t127) = some r := H
              have A16 := Aside0.mk A160
              clear A160
              obtain rfl := Option.some.inj H
              have hcz17_0 : wc.cell? ⟨gb123, 0, none⟩ = some (.int .i64 a0_0) := (blk_cell BK123.out 0).trans rfl
              have hcz17_1 : wc.cell? ⟨gb123, 1, none⟩ = some (.int .i64 a0_1) := (blk_cell BK123.out 1).trans rfl
              have hcz17_2 : wc.cell? ⟨gb123, 2, none⟩ = some (.int .i64 a0_2) := (blk_cell BK123.out 2).trans rfl
              have hcz17_3 : wc.cell? ⟨gb123, 3, none⟩ = some (.int .i64 a0_3) := (blk_cell BK123.out 3).trans rfl
              have hcz17_4 : wc.cell? ⟨gb123, 4, none⟩ = some (.slice A0_4 l0_4.length c0_4) := (blk_cell BK123.out 4).trans rfl
              have hfz17_0 := blk_frozen BK123.out 0
              have hfz17_1 := blk_frozen BK123.out 1
              have hfz17_2 := blk_frozen BK123.out 2
              have hfz17_3 := blk_frozen BK123.out 3
              have hfz17_4 := blk_frozen BK123.out 4
              go_wp2_with (first | ((with_reducible refine gate_callee (f := 27) rfl ?_); refine goesL_ (some 23) rfl rfl Try.func27 (by kernel_rfl) rfl #[.int .i64 a0_2, .int .i64 (-1000000), .int .i64 1000000] rfl (by (try simp only [List.map_toArray, List.map_cons, List.map_nil]); first | done | rfl | (simp only [List.length_drop, List.length_take]; rfl)) ?_; (with_reducible refine (order_within.calls a0_2 (-1000000) 1000000 true _ A12.out).mono ?_); rintro e w' ⟨rfl, ⟨nd, rfl⟩⟩; refine ⟨_, rfl, ?_⟩) | (go_at_call 27; (with_reducible refine (order_within.calls a0_3 1 1440 true _ A14.out).mono ?_); rintro e w' ⟨rfl, ⟨nd, rfl⟩⟩) | ((with_reducible refine gate_callee (f := 28) rfl ?_); refine goesL_ (some 33) rfl rfl Try.func28 (by kernel_rfl) rfl #[.slice A0_4 l0_4.length c0_4] rfl (by (try simp only [List.map_toArray, List.map_cons, List.map_nil]); first | done | rfl | (simp only [List.length_drop, List.length_take]; rfl)) ?_; (with_reducible refine (window_Check.calls kj4 _ _ l0_4 t127 _ ?side1 ?side2 A16.out).mono ?_); (case side1 => repeat (first | exact (Kd.C_below HR0_4.out (by repeat (first | (with_reducible first | exact HB.out | apply below_alloc | apply pw_below_drewN | apply below_drew1 | refine below_set ?_ GE123.out) | exact HB.out))) | (with_reducible refine Kd.C_alloc ?_ _) | (with_reducible refine Kd.C_drewN ?_ _) | (with_reducible refine Kd.C_drew ?_))); (case side2 => exact HC0_4.out); rintro e w18 ⟨rfl, hb⟩; refine ⟨_, rfl, ?_⟩; have n0_ := Aside0.mk (blk_below (g := gb123) (o := .cells #[.int .i64 a0_0, .int .i64 a0_1, .int .i64 a0_2, .int .i64 a0_3, .slice A0_4 l0_4.length c0_4] 25 (0, 0)) (by (with_reducible repeat (first | refine blk_drewN ?_ _ | refine blk_drew ?_ | refine blk_alloc ?_ _)); exact BK123.out) hb); have n1_ := Aside0.mk (below_step (by repeat (first | (with_reducible first | exact HB.out | apply below_alloc | apply pw_below_drewN | apply below_drew1 | refine below_set ?_ GE123.out) | exact HB.out)) hb); clear BK123; clear HB; have BK123 := n0_; have HB := n1_; clear n0_ n1_; (try clear hb); (try clear hb2); (try clear hk); (try clear hi)))
              go_ret
              exact ⟨by first | rfl | (simp [errW_none, errW_some] <;> rfl) | (simp [*, errW_none, errW_some] <;> rfl), by repeat (first | (with_reducible first | exact HB.out | apply below_alloc | apply pw_below_drewN | apply below_drew1 | refine below_set ?_ GE123.out) | exact HB.out)⟩
            · replace c15 := Bool.eq_false_iff.mpr c15
              subst c15
              have H1 : (some 4) = some r := by rw [if_neg (show ¬ (false = true) by decide)] at H; exact H
              clear H
              have H := H1
              clear H1
              obtain rfl := Option.some.inj H
              have hcz19_0 : wc.cell? ⟨gb123, 0, none⟩ = some (.int .i64 a0_0) := (blk_cell BK123.out 0).trans rfl
              have hcz19_1 : wc.cell? ⟨gb123, 1, none⟩ = some (.int .i64 a0_1) := (blk_cell BK123.out 1).trans rfl
              have hcz19_2 : wc.cell? ⟨gb123, 2, none⟩ = some (.int .i64 a0_2) := (blk_cell BK123.out 2).trans rfl
              have hcz19_3 : wc.cell? ⟨gb123, 3, none⟩ = some (.int .i64 a0_3) := (blk_cell BK123.out 3).trans rfl
              have hcz19_4 : wc.cell? ⟨gb123, 4, none⟩ = some (.slice A0_4 l0_4.length c0_4) := (blk_cell BK123.out 4).trans rfl
              have hfz19_0 := blk_frozen BK123.out 0
              have hfz19_1 := blk_frozen BK123.out 1
              have hfz19_2 := blk_frozen BK123.out 2
              have hfz19_3 := blk_frozen BK123.out 3
              have hfz19_4 := blk_frozen BK123.out 4
              go_wp2_with (first | ((with_reducible refine gate_callee (f := 27) rfl ?_); refine goesL_ (some 23) rfl rfl Try.func27 (by kernel_rfl) rfl #[.int .i64 a0_2, .int .i64 (-1000000), .int .i64 1000000] rfl (by (try simp only [List.map_toArray, List.map_cons, List.map_nil]); first | done | rfl | (simp only [List.length_drop, List.length_take]; rfl)) ?_; (with_reducible refine (order_within.calls a0_2 (-1000000) 1000000 true _ A12.out).mono ?_); rintro e w' ⟨rfl, ⟨nd, rfl⟩⟩; refine ⟨_, rfl, ?_⟩) | (go_at_call 27; (with_reducible refine (order_within.calls a0_3 1 1440 false _ A14.out).mono ?_); rintro e w' ⟨rfl, ⟨nd, rfl⟩⟩))
              go_ret
              exact ⟨by first | rfl | (simp [errW_none, errW_some] <;> rfl) | (simp [*, errW_none, errW_some] <;> rfl), by repeat (first | (with_reducible first | exact HB.out | apply below_alloc | apply pw_below_drewN | apply below_drew1 | refine below_set ?_ GE123.out) | exact HB.out)⟩
          · replace c13 := Bool.eq_false_iff.mpr c13
            subst c13
            have H1 : (some 4) = some r := by rw [if_neg (show ¬ (false = true) by decide)] at H; exact H
            clear H
            have H := H1
            clear H1
            obtain rfl := Option.some.inj H
            have hcz20_0 : wc.cell? ⟨gb123, 0, none⟩ = some (.int .i64 a0_0) := (blk_cell BK123.out 0).trans rfl
            have hcz20_1 : wc.cell? ⟨gb123, 1, none⟩ = some (.int .i64 a0_1) := (blk_cell BK123.out 1).trans rfl
            have hcz20_2 : wc.cell? ⟨gb123, 2, none⟩ = some (.int .i64 a0_2) := (blk_cell BK123.out 2).trans rfl
            have hcz20_3 : wc.cell? ⟨gb123, 3, none⟩ = some (.int .i64 a0_3) := (blk_cell BK123.out 3).trans rfl
            have hcz20_4 : wc.cell? ⟨gb123, 4, none⟩ = some (.slice A0_4 l0_4.length c0_4) := (blk_cell BK123.out 4).trans rfl
            have hfz20_0 := blk_frozen BK123.out 0
            have hfz20_1 := blk_frozen BK123.out 1
            have hfz20_2 := blk_frozen BK123.out 2
            have hfz20_3 := blk_frozen BK123.out 3
            have hfz20_4 := blk_frozen BK123.out 4
            go_wp2_with (first | ((with_reducible refine gate_callee (f := 27) rfl ?_); refine goesL_ (some 23) rfl rfl Try.func27 (by kernel_rfl) rfl #[.int .i64 a0_2, .int .i64 (-1000000), .int .i64 1000000] rfl (by (try simp only [List.map_toArray, List.map_cons, List.map_nil]); first | done | rfl | (simp only [List.length_drop, List.length_take]; rfl)) ?_; (with_reducible refine (order_within.calls a0_2 (-1000000) 1000000 false _ A12.out).mono ?_); rintro e w' ⟨rfl, ⟨nd, rfl⟩⟩; refine ⟨_, rfl, ?_⟩))
            go_ret
            exact ⟨by first | rfl | (simp [errW_none, errW_some] <;> rfl) | (simp [*, errW_none, errW_some] <;> rfl), by repeat (first | (with_reducible first | exact HB.out | apply below_alloc | apply pw_below_drewN | apply below_drew1 | refine below_set ?_ GE123.out) | exact HB.out)⟩
  · replace c4 := Bool.eq_false_iff.mpr c4
    subst c4
    have H1 : (some 1) = some r := by rw [if_neg (show ¬ (false = true) by decide)] at H; exact H
    clear H
    have H := H1
    clear H1
    obtain rfl := Option.some.inj H
    go_enter Try.func14, Try.ntmps14
    go_wp2_with (first | ((with_reducible refine gate_dst (N := 2) rfl ?_); refine box_event ?hg (N := 2) ?hd (cs := #[.int .i64 a0_0, .int .i64 a0_1, .int .i64 a0_2, .int .i64 a0_3, .slice A0_4 l0_4.length c0_4]) (t := 25) ?hr ?_; (case hd => rfl); (case hg => rfl); (case hr => first | (go_simp; done) | (go_simp; rfl)); intro gb123 hg w21 hbox hb; have n0_ := Aside0.mk (below_step (by repeat (first | (with_reducible first | exact HB.out | apply below_alloc | apply pw_below_drewN | apply below_drew1) | exact HB.out)) hb); have n1_ := Aside0.mk (hbox); have n2_ := Aside0.mk ((by rw [hg]; exact (below_size (by repeat (first | (with_reducible first | exact HB.out | apply below_alloc | apply pw_below_drewN | apply below_drew1) | exact HB.out))) : w.heap.size ≤ gb123)); have n3_ := Aside0.mk ((by rw [hg]; exact (below_size (by repeat (first | (with_reducible first | exact HB.out | apply below_alloc | apply pw_below_drewN | apply below_drew1) | exact HB.out))) : w.heap.size ≤ gb123)); clear HB; have HB := n0_; have BK123 := n1_; have GW123 := n2_; have GE123 := n3_; clear n0_ n1_ n2_ n3_; clear hb hbox hg; have hcz22_0 : w21.cell? ⟨gb123, 0, none⟩ = some (.int .i64 a0_0) := (blk_cell BK123.out 0).trans rfl; have hcz22_1 : w21.cell? ⟨gb123, 1, none⟩ = some (.int .i64 a0_1) := (blk_cell BK123.out 1).trans rfl; have hcz22_2 : w21.cell? ⟨gb123, 2, none⟩ = some (.int .i64 a0_2) := (blk_cell BK123.out 2).trans rfl; have hcz22_3 : w21.cell? ⟨gb123, 3, none⟩ = some (.int .i64 a0_3) := (blk_cell BK123.out 3).trans rfl; have hcz22_4 : w21.cell? ⟨gb123, 4, none⟩ = some (.slice A0_4 l0_4.length c0_4) := (blk_cell BK123.out 4).trans rfl; have hfz22_0 := blk_frozen BK123.out 0; have hfz22_1 := blk_frozen BK123.out 1; have hfz22_2 := blk_frozen BK123.out 2; have hfz22_3 := blk_frozen BK123.out 3; have hfz22_4 := blk_frozen BK123.out 4) | ((with_reducible refine gate_callee (f := 27) rfl ?_); refine goesL_ (some 8) rfl rfl Try.func27 (by kernel_rfl) rfl #[.int .i64 a0_0, .int .i64 1, .int .i64 999999] rfl (by (try simp only [List.map_toArray, List.map_cons, List.map_nil]); first | done | rfl | (simp only [List.length_drop, List.length_take]; rfl)) ?_; (with_reducible refine (order_within.calls a0_0 1 999999 false _ A3.out).mono ?_); rintro e w' ⟨rfl, ⟨nd, rfl⟩⟩; refine ⟨_, rfl, ?_⟩))
    go_ret
    exact ⟨by first | rfl | (simp [errW_none, errW_some] <;> rfl) | (simp [*, errW_none, errW_some] <;> rfl), by repeat (first | (with_reducible first | exact HB.out | apply below_alloc | apply pw_below_drewN | apply below_drew1 | refine below_set ?_ GE123.out) | exact HB.out)⟩

/-! ### haulierref02_Right: function 39 -/
def haulierref02_Right.f (a0_0 : Int) (a0_1 : Int) : Option (Bool) := some (decide (a0_0 < a0_1))
set_option maxHeartbeats 8000000 in
set_option maxRecDepth 100000 in
theorem haulierref02_Right.calls (a0_0 : Int) (a0_1 : Int) (r : Bool) (w : World) (h : haulierref02_Right.f a0_0 a0_1 = some r) :
    Calls Try.prog 39 #[.agg #[.int .i64 a0_0, .int .i64 a0_1]] w fun e w' => e = .returned (.bool r) ∧ Below w.heap.size w w' := by
  have hu50 := Try.underlying50
  have HB := Aside0.mk (Below.refl w.heap.size w)
  have H : (some (decide (a0_0 < a0_1))) = some r := h
  clear h
  obtain rfl := Option.some.inj H
  go_enter Try.func39, Try.ntmps39
  go_wp2_with (first | ((with_reducible refine gate_dst (N := 1) rfl ?_); refine box_event ?hg (N := 1) ?hd (cs := #[.int .i64 a0_0, .int .i64 a0_1]) (t := 50) ?hr ?_; (case hd => rfl); (case hg => rfl); (case hr => first | (go_simp; done) | (go_simp; rfl)); intro gb128 hg w2 hbox hb; have n0_ := Aside0.mk (below_step (by repeat (first | (with_reducible first | exact HB.out | apply below_alloc | apply pw_below_drewN | apply below_drew1) | exact HB.out)) hb); have n1_ := Aside0.mk (hbox); have n2_ := Aside0.mk ((by rw [hg]; exact (below_size (by repeat (first | (with_reducible first | exact HB.out | apply below_alloc | apply pw_below_drewN | apply below_drew1) | exact HB.out))) : w.heap.size ≤ gb128)); have n3_ := Aside0.mk ((by rw [hg]; exact (below_size (by repeat (first | (with_reducible first | exact HB.out | apply below_alloc | apply pw_below_drewN | apply below_drew1) | exact HB.out))) : w.heap.size ≤ gb128)); clear HB; have HB := n0_; have BK128 := n1_; have GW128 := n2_; have GE128 := n3_; clear n0_ n1_ n2_ n3_; clear hb hbox hg; have hcz3_0 : w2.cell? ⟨gb128, 0, none⟩ = some (.int .i64 a0_0) := (blk_cell BK128.out 0).trans rfl; have hcz3_1 : w2.cell? ⟨gb128, 1, none⟩ = some (.int .i64 a0_1) := (blk_cell BK128.out 1).trans rfl; have hfz3_0 := blk_frozen BK128.out 0; have hfz3_1 := blk_frozen BK128.out 1))
  go_ret
  exact ⟨by first | rfl | (simp [errW_none, errW_some] <;> rfl) | (simp [*, errW_none, errW_some] <;> rfl), by repeat (first | (with_reducible first | exact HB.out | apply below_alloc | apply pw_below_drewN | apply below_drew1 | refine below_set ?_ GE128.out) | exact HB.out)⟩

end Go.Proofs.Ytkedaiamhcgdkaa.MOrderChecks
