/- Whatever may be picked is picked by the draws that lead to it: lemmas on rising numbers, on Lead and Pick as functions, and the pure statement of DrawAll. -/
import Derived.Test.YtabhikacghkcgaaMDrawAllx2
set_option linter.unusedVariables false
set_option linter.unusedSimpArgs false
namespace Go.Proofs.Ytabhikacghkcgaa.Pure
open Go.RowKit Go.Proofs.Ytabhikacghkcgaa.MDrawAll Go.Proofs.YtabhikacghkcgaaW.PrintWords Go.Proofs.YtabhikacghkcgaaW.PrintLast

theorem w64 {x : Int} (h0 : -9223372036854775808 ≤ x) (h1 : x ≤ 9223372036854775807) : wrap64 x = x := by
  unfold wrap64
  omega
theorem tmod_nn {a : Int} (h : 0 ≤ a) (b : Int) : Int.tmod a b = a % b := by
  rw [Int.tmod_eq_emod_of_nonneg h]
theorem tdiv_nn {a : Int} (h : 0 ≤ a) (b : Int) : Int.tdiv a b = a / b := by
  rw [Int.tdiv_eq_ediv_of_nonneg h]
theorem ev_succ {α : Type} {g : Nat → Option α} {r : α} (h : Ev (fun k => g (k + 1)) r) : Ev g r := by
  obtain ⟨K, h⟩ := h
  refine ⟨K + 1, fun n hn => ?_⟩
  obtain ⟨m, rfl⟩ : ∃ m, n = m + 1 := ⟨n - 1, by omega⟩
  exact h m (by omega)

def IR (x : Int) : Prop := -9223372036854775808 ≤ x ∧ x ≤ 9223372036854775807
theorem ir_of {x : Int} (h : (Lit.int .i64 x).wf = true) : IR x := by simpa [IR, Lit.wf, IntKind.min, IntKind.max, IntKind.signed, IntKind.bits] using h
theorem rd_drop (xs : List Int) (i : Nat) (h : i < xs.length) : xs.drop i = rd xs (i : Int) :: xs.drop (i + 1) := by
  rw [List.drop_eq_getElem_cons h]
  simp [rd, h]
theorem rd_mem (xs : List Int) (i : Nat) (h : i < xs.length) : rd xs (i : Int) ∈ xs := by
  simp [rd, h]

open Go.Proofs.Ytabhikacghkcgaa.Ints Go.Proofs.Ytabhikacghkcgaa.Draw1 Go.Proofs.Ytabhikacghkcgaa.Draw2 Go.Proofs.Ytabhikacghkcgaa.Draw3 Go.Proofs.Ytabhikacghkcgaa.Draw6
/-- Numbers in rising order, none twice, from lo on, below hi. -/
def Up (lo hi : Int) (l : List Int) : Prop := l.Pairwise (· < ·) ∧ ∀ x ∈ l, lo ≤ x ∧ x < hi
theorem up_len {l : List Int} : ∀ {lo hi : Int}, Up lo hi l → lo ≤ hi → (l.length : Int) ≤ hi - lo := by
  induction l with
  | nil => intro lo hi _ h; simp; omega
  | cons x t ih =>
    intro lo hi h hl
    have h1 := h.1
    rw [List.pairwise_cons] at h1
    have hx := h.2 x List.mem_cons_self
    have := ih (lo := x + 1) (hi := hi) ⟨h1.2, fun y hy => by have a := h1.1 y hy; have b := h.2 y (List.mem_cons_of_mem _ hy); omega⟩ (by omega)
    rw [List.length_cons]
    omega
theorem up_le {l : List Int} {lo hi : Int} (h : Up lo hi l) : l.Pairwise (· ≤ ·) := h.1.imp (fun h => by omega)
theorem count_le {pk : List Int} {n : Int} (h : Up 0 n pk) (x : Int) (h0 : 0 ≤ x) (hx : x < n) (hn : x ∉ pk) : ((pk.countP (· < x) : Nat) : Int) ≤ x ∧ ((pk.length - pk.countP (· < x) : Nat) : Int) ≤ n - 1 - x := by
  obtain ⟨h1, h2⟩ := countP_split (up_le h) x
  have hc : pk.countP (· < x) ≤ pk.length := List.countP_le_length
  have a := up_len (l := pk.take (pk.countP (· < x))) (lo := 0) (hi := x) ⟨h.1.sublist (List.take_sublist _ _), fun y hy => ⟨(h.2 y (List.mem_of_mem_take hy)).1, h1 y hy⟩⟩ h0
  have b := up_len (l := pk.drop (pk.countP (· < x))) (lo := x + 1) (hi := n) ⟨h.1.sublist (List.drop_sublist _ _), fun y hy => by
    have c := h2 y hy
    have d := h.2 y (List.mem_of_mem_drop hy)
    have e : y ≠ x := fun e => hn (e ▸ List.mem_of_mem_drop hy)
    omega⟩ (by omega)
  rw [List.length_take, Nat.min_eq_left hc] at a
  rw [List.length_drop] at b
  omega
/-- The number with as many lesser ones that are not picked is the one that was meant. -/
theorem bump_at {pk : List Int} : ∀ {lo n : Int}, Up lo n pk → -9223372036854775808 ≤ lo → n ≤ 9223372036854775807 → ∀ x, lo ≤ x → x < n → x ∉ pk → bump pk (x - (pk.countP (· < x) : Nat)) = (x, pk.countP (· < x)) := by
  induction pk with
  | nil => intro lo n _ _ _ x _ _ _; simp [bump]
  | cons p t ih =>
    intro lo n h hlo hn x h0 hx hne
    have h1 := h.1
    rw [List.pairwise_cons] at h1
    have hp := h.2 p List.mem_cons_self
    have hu : Up (p + 1) n t := ⟨h1.2, fun y hy => by have a := h1.1 y hy; have b := h.2 y (List.mem_cons_of_mem _ hy); omega⟩
    have hpx : p ≠ x := fun e => hne (e ▸ List.mem_cons_self)
    have hnt : x ∉ t := fun hm => hne (List.mem_cons_of_mem _ hm)
    rw [bump]
    by_cases c : p < x
    · rw [List.countP_cons_of_pos (by simpa using c)]
      have hle : ((t.countP (· < x) : Nat) : Int) ≤ x - (p + 1) := by
        obtain ⟨a1, _⟩ := countP_split (up_le hu) x
        have hc : t.countP (· < x) ≤ t.length := List.countP_le_length
        have := up_len (l := t.take (t.countP (· < x))) (lo := p + 1) (hi := x) ⟨hu.1.sublist (List.take_sublist _ _), fun y hy => ⟨(hu.2 y (List.mem_of_mem_take hy)).1, a1 y hy⟩⟩ (by omega)
        rw [List.length_take, Nat.min_eq_left hc] at this
        exact this
      have hw : wrap64 (x - ((t.countP (· < x) + 1 : Nat) : Int) + 1) = x - ((t.countP (· < x) : Nat) : Int) := by
        rw [w64 (by omega) (by omega)]
        omega
      rw [if_pos (by omega), hw, ih hu (by omega) hn x (by omega) hx hnt]
    · have h00 : t.countP (· < x) = 0 := by
        rw [List.countP_eq_zero]
        intro y hy
        have := h1.1 y hy
        simp only [decide_eq_true_eq]
        omega
      rw [List.countP_cons_of_neg (by simpa using c), h00, if_neg (by simp; omega)]
      simp
theorem mem_ins {pk : List Int} {x y : Int} {a : Nat} : y ∈ insP pk (x, a) ↔ y = x ∨ y ∈ pk := by
  unfold insP
  have := List.take_append_drop a pk
  constructor
  · intro h
    simp only [List.mem_append, List.mem_singleton] at h
    rcases h with (h | h) | h
    · exact .inr (List.mem_of_mem_take h)
    · exact .inl h
    · exact .inr (List.mem_of_mem_drop h)
  · intro h
    simp only [List.mem_append, List.mem_singleton]
    rcases h with h | h
    · exact .inl (.inr h)
    · rw [← this, List.mem_append] at h
      rcases h with h | h
      · exact .inl (.inl h)
      · exact .inr h
theorem up_ins {pk : List Int} {n x : Int} (h : Up 0 n pk) (h0 : 0 ≤ x) (hx : x < n) (hn : x ∉ pk) : Up 0 n (insP pk (x, pk.countP (· < x))) := by
  refine ⟨?_, fun y hy => by rcases mem_ins.1 hy with rfl | hy; exact ⟨h0, hx⟩; exact h.2 y hy⟩
  obtain ⟨h1, h2⟩ := countP_split (up_le h) x
  have h3 : ∀ y ∈ pk.drop (pk.countP (· < x)), x < y := fun y hy => by
    have c := h2 y hy
    have e : y ≠ x := fun e => hn (e ▸ List.mem_of_mem_drop hy)
    omega
  unfold insP
  rw [List.append_assoc, List.pairwise_append]
  refine ⟨h.1.sublist (List.take_sublist _ _), ?_, fun a ha b hb => ?_⟩
  · rw [List.singleton_append, List.pairwise_cons]
    exact ⟨fun b hb => h3 b hb, h.1.sublist (List.drop_sublist _ _)⟩
  · simp only [List.singleton_append, List.mem_cons] at hb
    have := h1 a ha
    rcases hb with rfl | hb
    · omega
    · have := h3 b hb
      omega
theorem rd_app {a b : List Int} {d : Int} (s : List Int) : rd ((a ++ [d] ++ s) ++ b) (a.length : Int) = d := by
  simp [rd]
/-- What leads to numbers picks them. -/
theorem lead_pick (n : Int) (hn : n ≤ 9223372036854775807) (b : List Int) (t : List Int) : ∀ (pk dn outd ld : List Int) (i : Nat), leadL n t pk outd = (ld, true) → Up 0 n pk → pk.length = i → outd.length = i → i + t.length ≤ 1000000 →
    pickL (ld ++ b) n t.length (i : Int) i dn pk = (dn ++ t, true, i + t.length) ∧ ld.length = i + t.length ∧ (∃ s, ld = outd ++ s) ∧ (∀ x ∈ t, 0 ≤ x ∧ x < n ∧ x ∉ pk) ∧ t.Nodup ∧ ((0 : Int) ≤ n → ((i + t.length : Nat) : Int) ≤ n) := by
  induction t with
  | nil =>
    intro pk dn outd ld i h hu hpk ho _
    simp only [leadL, Prod.mk.injEq, and_true] at h
    subst h
    refine ⟨by simp [pickL], by simpa using ho, ⟨[], by simp⟩, by simp, List.nodup_nil, fun h0 => ?_⟩
    have := up_len hu h0
    simp
    omega
  | cons x t ih =>
    intro pk dn outd ld i h hu hpk ho hb
    simp only [List.length_cons] at hb
    rw [leadL] at h
    split at h
    · simp at h
    · rename_i hc
      simp only [not_or, List.contains_iff_mem, Bool.not_eq_true] at hc
      obtain ⟨c1, c2, c3⟩ := hc
      have hnp : x ∉ pk := by simpa using c1
      obtain ⟨ha, hbn⟩ := count_le hu x (by omega) (by omega) hnp
      have hcl : pk.countP (· < x) ≤ pk.length := List.countP_le_length
      have hw : wrap64 (x - ((pk.countP (· < x) : Nat) : Int)) = x - ((pk.countP (· < x) : Nat) : Int) := w64 (by omega) (by omega)
      rw [hw] at h
      have hu2 := up_ins hu (show 0 ≤ x by omega) (show x < n by omega) hnp
      obtain ⟨g1, g2, ⟨s, g3⟩, g4, g5, g6⟩ := ih _ (dn ++ [x]) _ ld (i + 1) h hu2 (by rw [ins_len _ _ _ hcl, hpk]) (by rw [List.length_append, ho]; rfl) (by omega)
      have hrd : rd (ld ++ b) (i : Int) = x - ((pk.countP (· < x) : Nat) : Int) := by
        rw [g3, ← ho]
        exact rd_app s
      have hwi : wrap64 (n - (i : Int)) = n - (i : Int) := w64 (by omega) (by omega)
      have hnx : nxt (ld ++ b) i (wrap64 (n - (i : Int))) = (x - ((pk.countP (· < x) : Nat) : Int), true, i + 1) := by
        unfold nxt
        rw [hwi, hrd, if_neg (by omega), if_neg (by rw [List.length_append]; omega), Int.tmod_eq_emod_of_nonneg (by omega), Int.emod_eq_of_lt (by omega) (by omega), if_neg (by omega)]
      refine ⟨?_, by rw [g2, List.length_cons]; omega, ⟨[x - ((pk.countP (· < x) : Nat) : Int)] ++ s, by rw [g3, List.append_assoc]⟩, fun y hy => ?_, ?_, fun h0 => by have := g6 h0; rw [List.length_cons]; omega⟩
      · rw [List.length_cons, pickL, hnx]
        simp only [if_true]
        rw [bump_at hu (by omega) hn x (by omega) (by omega) hnp]
        have e : ((i + 1 : Nat) : Int) = (i : Int) + 1 := by omega
        rw [e] at g1
        rw [g1]
        simp
        omega
      · rcases List.mem_cons.1 hy with rfl | hy
        · exact ⟨by omega, by omega, hnp⟩
        · obtain ⟨a1, a2, a3⟩ := g4 y hy
          exact ⟨a1, a2, fun hm => a3 (mem_ins.2 (.inr hm))⟩
      · rw [List.nodup_cons]
        exact ⟨fun hm => (g4 x hm).2.2 (mem_ins.2 (.inl rfl)), g5⟩

/-! the same numbers; unlike numbers -/
theorem same07_l0 (a : List Int) (ha : a.length ≤ 1000000) (d : Nat) : ∀ i : Nat, i + d = a.length → Ev (fun k => haulierref07_Same.l0 k a a (i : Int)) true := by
  induction d with
  | zero =>
    intro i hi
    refine ev_succ ?_
    simp only [haulierref07_Same.l0, if_neg (show ¬ (i : Int) < (a.length : Int) by omega)]
    exact Ev.now _
  | succ d ih =>
    intro i hi
    have h := ih (i + 1) (by omega)
    rw [show (((i + 1 : Nat) : Int)) = (i : Int) + 1 by omega] at h
    refine ev_succ ?_
    simp only [haulierref07_Same.l0, if_pos (show (i : Int) < (a.length : Int) by omega), if_pos (show (0 : Int) ≤ (i : Int) by omega), w64 (x := (i : Int) + 1) (by omega) (by omega), if_true]
    exact h
theorem same07_f (a : List Int) (ha : a.length ≤ 1000000) : Ev (fun k => haulierref07_Same.f k a a) true := by
  unfold haulierref07_Same.f
  simp only [if_true]
  exact same07_l0 a ha a.length 0 (by omega)

theorem rd_get (a : List Int) (i : Nat) (h : i < a.length) : rd a (i : Int) = a[i] := by simp [rd, h]
theorem unlike_l1 (n : Int) (a : List Int) (ha : a.length ≤ 1000000) (hd : a.Nodup) (i : Nat) (hi : i < a.length) (R : Bool) (hR : Ev (fun k => haulierref34_Unlike.l0 k n a (wrap64 ((i : Int) + 1))) R) (d : Nat) : ∀ j : Nat, j + d = i → Ev (fun k => haulierref34_Unlike.l1 k n a (i : Int) (j : Int)) R := by
  induction d with
  | zero =>
    intro j hj
    refine ev_succ ?_
    simp only [haulierref34_Unlike.l1, if_neg (show ¬ (j : Int) < (i : Int) by omega)]
    exact hR
  | succ d ih =>
    intro j hj
    have h := ih (j + 1) (by omega)
    rw [show (((j + 1 : Nat) : Int)) = (j : Int) + 1 by omega] at h
    refine ev_succ ?_
    have hne : ¬ rd a (j : Int) = rd a (i : Int) := by
      rw [rd_get a j (by omega), rd_get a i hi]
      intro e
      exact List.pairwise_iff_getElem.1 hd j i (by omega) hi (by omega) e
    simp only [haulierref34_Unlike.l1, if_pos (show (j : Int) < (i : Int) by omega), if_pos (show (0 : Int) ≤ (j : Int) by omega), if_pos (show (j : Int) < (a.length : Int) by omega), if_pos (show (0 : Int) ≤ (i : Int) by omega), if_pos (show (i : Int) < (a.length : Int) by omega), if_neg hne, w64 (x := (j : Int) + 1) (by omega) (by omega)]
    exact h
theorem unlike_l0 (n : Int) (a : List Int) (ha : a.length ≤ 1000000) (hd : a.Nodup) (hr : ∀ x ∈ a, 0 ≤ x ∧ x < n) (d : Nat) : ∀ i : Nat, i + d = a.length → Ev (fun k => haulierref34_Unlike.l0 k n a (i : Int)) true := by
  induction d with
  | zero =>
    intro i hi
    refine ev_succ ?_
    simp only [haulierref34_Unlike.l0, if_neg (show ¬ (i : Int) < (a.length : Int) by omega)]
    exact Ev.now _
  | succ d ih =>
    intro i hi
    have h := ih (i + 1) (by omega)
    have hx := hr (rd a (i : Int)) (by rw [rd_get a i (by omega)]; exact List.getElem_mem _)
    refine ev_succ ?_
    simp only [haulierref34_Unlike.l0, if_pos (show (i : Int) < (a.length : Int) by omega), if_pos (show (0 : Int) ≤ (i : Int) by omega), if_neg (show ¬ rd a (i : Int) < 0 by omega), show decide (rd a (i : Int) ≥ n) = false from decide_eq_false (by omega)]
    refine ev_succ ?_
    simp only [haulierref34_Unlike.j1, Bool.false_eq_true, if_false]
    refine unlike_l1 n a ha hd i (by omega) true ?_ i 0 (by omega)
    rw [w64 (by omega) (by omega), show (i : Int) + 1 = ((i + 1 : Nat) : Int) by omega]
    exact h
theorem unlike_f (n : Int) (a : List Int) (ha : a.length ≤ 1000000) (hd : a.Nodup) (hr : ∀ x ∈ a, 0 ≤ x ∧ x < n) : Ev (fun k => haulierref34_Unlike.f k n a) true := unlike_l0 n a ha hd hr a.length 0 (by omega)

theorem lead_neg (n : Int) (hn : n < 0) (l ld : List Int) (h : leadL n l [] [] = (ld, true)) : l = [] ∧ ld = [] := by
  cases l with
  | nil => simp only [leadL, Prod.mk.injEq, and_true] at h; exact ⟨rfl, h.symm⟩
  | cons x t =>
    rw [leadL, if_pos (by by_cases c : x < 0; exact .inr (.inl c); exact .inr (.inr (by omega)))] at h
    simp at h
theorem lead_false (n : Int) (l : List Int) : ∀ pk out ld, leadL n l pk out = (ld, false) → ld = [] := by
  induction l with
  | nil => intro pk out ld h; simp [leadL] at h
  | cons x t ih =>
    intro pk out ld h
    rw [leadL] at h
    split at h
    · simp only [Prod.mk.injEq, and_true] at h
      exact h.symm
    · exact ih _ _ _ h
theorem DrawAll : haulierlaw34_DrawAll.Pure := by
  intro n l b hn _ _ _ _ _ _
  have hn := ir_of hn
  unfold IR at hn
  refine Ev.rounds ?_
  unfold haulierlaw34_DrawAll.f
  by_cases h1 : 200 < l.length
  · simp only [if_pos h1]
    exact Ev.now _
  by_cases h2 : 200 < b.length
  · simp only [if_neg h1, if_pos h2]
    exact Ev.now _
  simp only [if_neg h1, if_neg h2]
  obtain ⟨ld, is, hld⟩ : ∃ ld is, leadL n l [] [] = (ld, is) := ⟨_, _, rfl⟩
  simp only [hld]
  cases is with
  | false =>
    have := lead_false n l [] [] ld hld
    subst this
    simp only [if_true]
    exact Ev.now _
  | true =>
    simp only [Bool.true_eq_false, if_false]
    by_cases h0 : n < 0
    · obtain ⟨rfl, rfl⟩ := lead_neg n h0 l ld hld
      have : pickS ([] ++ b) 0 n (([] : List Int).length : Int) = ([], false, 0) := by
        unfold pickS
        rw [if_pos (.inl h0)]
      simp only [if_pos h0, this]
      simp only [List.length_nil, and_self, if_true]
      exact Ev.now _
    · simp only [if_neg h0]
      obtain ⟨g1, g2, _, g4, g5, g6⟩ := lead_pick n hn.2 b l [] [] [] ld 0 hld ⟨List.Pairwise.nil, by simp⟩ rfl rfl (by omega)
      have g7 := g6 (by omega)
      have : pickS (ld ++ b) 0 n (l.length : Int) = (l, true, l.length) := by
        unfold pickS
        rw [if_neg (by omega), Int.toNat_natCast]
        simpa using g1
      simp only [this, true_and]
      have hc : (ld ++ b).length - l.length = b.length := by rw [List.length_append, g2]; omega
      simp only [if_pos hc]
      refine Ev.bind (same07_f l (by omega)) ?_
      refine Ev.bind (unlike_f n l (by omega) g5 (fun x hx => ⟨(g4 x hx).1, (g4 x hx).2.1⟩)) ?_
      simp only [and_self, if_true]
      exact Ev.now _


end Go.Proofs.Ytabhikacghkcgaa.Pure
