/- Any draws that are asked for one behind the other are told as the reference tells them: lemmas on rising numbers and on what is not picked, and the pure statement of DrawPlays. -/
import Derived.Test.YtabhikacghkcgaaMDrawPlaysx1
set_option linter.unusedVariables false
set_option linter.unusedSimpArgs false
namespace Go.Proofs.Ytabhikacghkcgaa.Pure
open Go.RowKit Go.Proofs.Ytabhikacghkcgaa.MDrawPlays Go.Proofs.YtabhikacghkcgaaW.PrintWords Go.Proofs.YtabhikacghkcgaaW.PrintLast

theorem w64 {x : Int} (h0 : -9223372036854775808 ≤ x) (h1 : x ≤ 9223372036854775807) : wrap64 x = x := by
  unfold wrap64
  omega
theorem tmod_nn {a : Int} (h : 0 ≤ a) (b : Int) : Int.tmod a b = a % b := by
  rw [Int.tmod_eq_emod_of_nonneg h]
theorem tdiv_nn {a : Int} (h : 0 ≤ a) (b : Int) : Int.tdiv a b = a / b := by
  rw [Int.tdiv_eq_ediv_of_nonneg h]
theorem ev_succ {α : Type} {g : Nat → Option α} {r : α} (h : Ev (fun k => g (k + 1)) r) : Ev g r := by
  obtain ⟨K, h⟩ := h
  refine ⟨K + 1, fun n hn => ?_⟩
  obtain ⟨m, rfl⟩ : ∃ m, n = m + 1 := ⟨n - 1, by omega⟩
  exact h m (by omega)

def IR (x : Int) : Prop := -9223372036854775808 ≤ x ∧ x ≤ 9223372036854775807
theorem ir_of {x : Int} (h : (Lit.int .i64 x).wf = true) : IR x := by simpa [IR, Lit.wf, IntKind.min, IntKind.max, IntKind.signed, IntKind.bits] using h
theorem rd_drop (xs : List Int) (i : Nat) (h : i < xs.length) : xs.drop i = rd xs (i : Int) :: xs.drop (i + 1) := by
  rw [List.drop_eq_getElem_cons h]
  simp [rd, h]
theorem rd_mem (xs : List Int) (i : Nat) (h : i < xs.length) : rd xs (i : Int) ∈ xs := by
  simp [rd, h]

open Go.Proofs.Ytabhikacghkcgaa.Ints Go.Proofs.Ytabhikacghkcgaa.Draw1 Go.Proofs.Ytabhikacghkcgaa.Draw2 Go.Proofs.Ytabhikacghkcgaa.Draw3 Go.Proofs.Ytabhikacghkcgaa.Draw6
/-- Numbers in rising order, none twice, from lo on, below hi. -/
def Up (lo hi : Int) (l : List Int) : Prop := l.Pairwise (· < ·) ∧ ∀ x ∈ l, lo ≤ x ∧ x < hi
theorem up_len {l : List Int} : ∀ {lo hi : Int}, Up lo hi l → lo ≤ hi → (l.length : Int) ≤ hi - lo := by
  induction l with
  | nil => intro lo hi _ h; simp; omega
  | cons x t ih =>
    intro lo hi h hl
    have h1 := h.1
    rw [List.pairwise_cons] at h1
    have hx := h.2 x List.mem_cons_self
    have := ih (lo := x + 1) (hi := hi) ⟨h1.2, fun y hy => by have a := h1.1 y hy; have b := h.2 y (List.mem_cons_of_mem _ hy); omega⟩ (by omega)
    rw [List.length_cons]
    omega
theorem up_le {l : List Int} {lo hi : Int} (h : Up lo hi l) : l.Pairwise (· ≤ ·) := h.1.imp (fun h => by omega)
theorem count_le {pk : List Int} {n : Int} (h : Up 0 n pk) (x : Int) (h0 : 0 ≤ x) (hx : x < n) (hn : x ∉ pk) : ((pk.countP (· < x) : Nat) : Int) ≤ x ∧ ((pk.length - pk.countP (· < x) : Nat) : Int) ≤ n - 1 - x := by
  obtain ⟨h1, h2⟩ := countP_split (up_le h) x
  have hc : pk.countP (· < x) ≤ pk.length := List.countP_le_length
  have a := up_len (l := pk.take (pk.countP (· < x))) (lo := 0) (hi := x) ⟨h.1.sublist (List.take_sublist _ _), fun y hy => ⟨(h.2 y (List.mem_of_mem_take hy)).1, h1 y hy⟩⟩ h0
  have b := up_len (l := pk.drop (pk.countP (· < x))) (lo := x + 1) (hi := n) ⟨h.1.sublist (List.drop_sublist _ _), fun y hy => by
    have c := h2 y hy
    have d := h.2 y (List.mem_of_mem_drop hy)
    have e : y ≠ x := fun e => hn (e ▸ List.mem_of_mem_drop hy)
    omega⟩ (by omega)
  rw [List.length_take, Nat.min_eq_left hc] at a
  rw [List.length_drop] at b
  omega
/-- The number with as many lesser ones that are not picked is the one that was meant. -/
theorem bump_at {pk : List Int} : ∀ {lo n : Int}, Up lo n pk → -9223372036854775808 ≤ lo → n ≤ 9223372036854775807 → ∀ x, lo ≤ x → x < n → x ∉ pk → bump pk (x - (pk.countP (· < x) : Nat)) = (x, pk.countP (· < x)) := by
  induction pk with
  | nil => intro lo n _ _ _ x _ _ _; simp [bump]
  | cons p t ih =>
    intro lo n h hlo hn x h0 hx hne
    have h1 := h.1
    rw [List.pairwise_cons] at h1
    have hp := h.2 p List.mem_cons_self
    have hu : Up (p + 1) n t := ⟨h1.2, fun y hy => by have a := h1.1 y hy; have b := h.2 y (List.mem_cons_of_mem _ hy); omega⟩
    have hpx : p ≠ x := fun e => hne (e ▸ List.mem_cons_self)
    have hnt : x ∉ t := fun hm => hne (List.mem_cons_of_mem _ hm)
    rw [bump]
    by_cases c : p < x
    · rw [List.countP_cons_of_pos (by simpa using c)]
      have hle : ((t.countP (· < x) : Nat) : Int) ≤ x - (p + 1) := by
        obtain ⟨a1, _⟩ := countP_split (up_le hu) x
        have hc : t.countP (· < x) ≤ t.length := List.countP_le_length
        have := up_len (l := t.take (t.countP (· < x))) (lo := p + 1) (hi := x) ⟨hu.1.sublist (List.take_sublist _ _), fun y hy => ⟨(hu.2 y (List.mem_of_mem_take hy)).1, a1 y hy⟩⟩ (by omega)
        rw [List.length_take, Nat.min_eq_left hc] at this
        exact this
      have hw : wrap64 (x - ((t.countP (· < x) + 1 : Nat) : Int) + 1) = x - ((t.countP (· < x) : Nat) : Int) := by
        rw [w64 (by omega) (by omega)]
        omega
      rw [if_pos (by omega), hw, ih hu (by omega) hn x (by omega) hx hnt]
    · have h00 : t.countP (· < x) = 0 := by
        rw [List.countP_eq_zero]
        intro y hy
        have := h1.1 y hy
        simp only [decide_eq_true_eq]
        omega
      rw [List.countP_cons_of_neg (by simpa using c), h00, if_neg (by simp; omega)]
      simp
theorem mem_ins {pk : List Int} {x y : Int} {a : Nat} : y ∈ insP pk (x, a) ↔ y = x ∨ y ∈ pk := by
  unfold insP
  have := List.take_append_drop a pk
  constructor
  · intro h
    simp only [List.mem_append, List.mem_singleton] at h
    rcases h with (h | h) | h
    · exact .inr (List.mem_of_mem_take h)
    · exact .inl h
    · exact .inr (List.mem_of_mem_drop h)
  · intro h
    simp only [List.mem_append, List.mem_singleton]
    rcases h with h | h
    · exact .inl (.inr h)
    · rw [← this, List.mem_append] at h
      rcases h with h | h
      · exact .inl (.inl h)
      · exact .inr h
theorem up_ins {pk : List Int} {n x : Int} (h : Up 0 n pk) (h0 : 0 ≤ x) (hx : x < n) (hn : x ∉ pk) : Up 0 n (insP pk (x, pk.countP (· < x))) := by
  refine ⟨?_, fun y hy => by rcases mem_ins.1 hy with rfl | hy; exact ⟨h0, hx⟩; exact h.2 y hy⟩
  obtain ⟨h1, h2⟩ := countP_split (up_le h) x
  have h3 : ∀ y ∈ pk.drop (pk.countP (· < x)), x < y := fun y hy => by
    have c := h2 y hy
    have e : y ≠ x := fun e => hn (e ▸ List.mem_of_mem_drop hy)
    omega
  unfold insP
  rw [List.append_assoc, List.pairwise_append]
  refine ⟨h.1.sublist (List.take_sublist _ _), ?_, fun a ha b hb => ?_⟩
  · rw [List.singleton_append, List.pairwise_cons]
    exact ⟨fun b hb => h3 b hb, h.1.sublist (List.drop_sublist _ _)⟩
  · simp only [List.singleton_append, List.mem_cons] at hb
    have := h1 a ha
    rcases hb with rfl | hb
    · omega
    · have := h3 b hb
      omega
theorem rd_app {a b : List Int} {d : Int} (s : List Int) : rd ((a ++ [d] ++ s) ++ b) (a.length : Int) = d := by
  simp [rd]
/-- What leads to numbers picks them. -/
theorem lead_pick (n : Int) (hn : n ≤ 9223372036854775807) (b : List Int) (t : List Int) : ∀ (pk dn outd ld : List Int) (i : Nat), leadL n t pk outd = (ld, true) → Up 0 n pk → pk.length = i → outd.length = i → i + t.length ≤ 1000000 →
    pickL (ld ++ b) n t.length (i : Int) i dn pk = (dn ++ t, true, i + t.length) ∧ ld.length = i + t.length ∧ (∃ s, ld = outd ++ s) ∧ (∀ x ∈ t, 0 ≤ x ∧ x < n ∧ x ∉ pk) ∧ t.Nodup ∧ ((0 : Int) ≤ n → ((i + t.length : Nat) : Int) ≤ n) := by
  induction t with
  | nil =>
    intro pk dn outd ld i h hu hpk ho _
    simp only [leadL, Prod.mk.injEq, and_true] at h
    subst h
    refine ⟨by simp [pickL], by simpa using ho, ⟨[], by simp⟩, by simp, List.nodup_nil, fun h0 => ?_⟩
    have := up_len hu h0
    simp
    omega
  | cons x t ih =>
    intro pk dn outd ld i h hu hpk ho hb
    simp only [List.length_cons] at hb
    rw [leadL] at h
    split at h
    · simp at h
    · rename_i hc
      simp only [not_or, List.contains_iff_mem, Bool.not_eq_true] at hc
      obtain ⟨c1, c2, c3⟩ := hc
      have hnp : x ∉ pk := by simpa using c1
      obtain ⟨ha, hbn⟩ := count_le hu x (by omega) (by omega) hnp
      have hcl : pk.countP (· < x) ≤ pk.length := List.countP_le_length
      have hw : wrap64 (x - ((pk.countP (· < x) : Nat) : Int)) = x - ((pk.countP (· < x) : Nat) : Int) := w64 (by omega) (by omega)
      rw [hw] at h
      have hu2 := up_ins hu (show 0 ≤ x by omega) (show x < n by omega) hnp
      obtain ⟨g1, g2, ⟨s, g3⟩, g4, g5, g6⟩ := ih _ (dn ++ [x]) _ ld (i + 1) h hu2 (by rw [ins_len _ _ _ hcl, hpk]) (by rw [List.length_append, ho]; rfl) (by omega)
      have hrd : rd (ld ++ b) (i : Int) = x - ((pk.countP (· < x) : Nat) : Int) := by
        rw [g3, ← ho]
        exact rd_app s
      have hwi : wrap64 (n - (i : Int)) = n - (i : Int) := w64 (by omega) (by omega)
      have hnx : nxt (ld ++ b) i (wrap64 (n - (i : Int))) = (x - ((pk.countP (· < x) : Nat) : Int), true, i + 1) := by
        unfold nxt
        rw [hwi, hrd, if_neg (by omega), if_neg (by rw [List.length_append]; omega), Int.tmod_eq_emod_of_nonneg (by omega), Int.emod_eq_of_lt (by omega) (by omega), if_neg (by omega)]
      refine ⟨?_, by rw [g2, List.length_cons]; omega, ⟨[x - ((pk.countP (· < x) : Nat) : Int)] ++ s, by rw [g3, List.append_assoc]⟩, fun y hy => ?_, ?_, fun h0 => by have := g6 h0; rw [List.length_cons]; omega⟩
      · rw [List.length_cons, pickL, hnx]
        simp only [if_true]
        rw [bump_at hu (by omega) hn x (by omega) (by omega) hnp]
        have e : ((i + 1 : Nat) : Int) = (i : Int) + 1 := by omega
        rw [e] at g1
        rw [g1]
        simp
        omega
      · rcases List.mem_cons.1 hy with rfl | hy
        · exact ⟨by omega, by omega, hnp⟩
        · obtain ⟨a1, a2, a3⟩ := g4 y hy
          exact ⟨a1, a2, fun hm => a3 (mem_ins.2 (.inr hm))⟩
      · rw [List.nodup_cons]
        exact ⟨fun hm => (g4 x hm).2.2 (mem_ins.2 (.inl rfl)), g5⟩

/-! the same numbers; unlike numbers -/
theorem same07_l0 (a : List Int) (ha : a.length ≤ 1000000) (d : Nat) : ∀ i : Nat, i + d = a.length → Ev (fun k => haulierref07_Same.l0 k a a (i : Int)) true := by
  induction d with
  | zero =>
    intro i hi
    refine ev_succ ?_
    simp only [haulierref07_Same.l0, if_neg (show ¬ (i : Int) < (a.length : Int) by omega)]
    exact Ev.now _
  | succ d ih =>
    intro i hi
    have h := ih (i + 1) (by omega)
    rw [show (((i + 1 : Nat) : Int)) = (i : Int) + 1 by omega] at h
    refine ev_succ ?_
    simp only [haulierref07_Same.l0, if_pos (show (i : Int) < (a.length : Int) by omega), if_pos (show (0 : Int) ≤ (i : Int) by omega), w64 (x := (i : Int) + 1) (by omega) (by omega), if_true]
    exact h
theorem same07_f (a : List Int) (ha : a.length ≤ 1000000) : Ev (fun k => haulierref07_Same.f k a a) true := by
  unfold haulierref07_Same.f
  simp only [if_true]
  exact same07_l0 a ha a.length 0 (by omega)

open Go.Proofs.Ytabhikacghkcgaa.Draw4 Go.Proofs.Ytabhikacghkcgaa.Draw5
/-- The numbers from 0 on, below n, that are not picked. -/
def Comp (pk rest : List Int) (n : Int) : Prop := rest.Pairwise (· < ·) ∧ ∀ v, v ∈ rest ↔ (0 ≤ v ∧ v < n) ∧ v ∉ pk
theorem count_succ {l : List Int} (h : l.Pairwise (· < ·)) (y : Int) : l.countP (· < y + 1) = l.countP (· < y) + if y ∈ l then 1 else 0 := by
  induction l with
  | nil => simp
  | cons x t ih =>
    rw [List.pairwise_cons] at h
    have ih := ih h.2
    by_cases c : x = y
    · subst c
      have hn : x ∉ t := fun hm => by have := h.1 x hm; omega
      rw [if_neg hn] at ih
      rw [List.countP_cons_of_pos (by simp only [decide_eq_true_eq]; omega), List.countP_cons_of_neg (by simp), ih, if_pos List.mem_cons_self]
    · have hm : (y ∈ x :: t) = (y ∈ t) := by simp [Ne.symm c]
      simp only [hm]
      by_cases c2 : x < y
      · rw [List.countP_cons_of_pos (by simp; omega), List.countP_cons_of_pos (by simpa using c2), ih]
        omega
      · rw [List.countP_cons_of_neg (by simp; omega), List.countP_cons_of_neg (by simpa using c2), ih]
theorem count_zero {l : List Int} (h : ∀ v ∈ l, 0 ≤ v) : l.countP (· < (0 : Int)) = 0 := by
  rw [List.countP_eq_zero]
  intro y hy
  have := h y hy
  simp only [decide_eq_true_eq]
  omega
theorem comp_count {pk rest : List Int} {n : Int} (hu : Up 0 n pk) (hc : Comp pk rest n) (y : Nat) : (y : Int) ≤ n → pk.countP (· < (y : Int)) + rest.countP (· < (y : Int)) = y := by
  induction y with
  | zero =>
    intro _
    have a := count_zero (l := pk) (fun v hv => (hu.2 v hv).1)
    have b := count_zero (l := rest) (fun v hv => ((hc.2 v).1 hv).1.1)
    rw [show ((0 : Nat) : Int) = 0 from rfl, a, b]
  | succ y ih =>
    intro hy
    have ih := ih (by omega)
    have a := count_succ hu.1 (y : Int)
    have b := count_succ hc.1 (y : Int)
    rw [show ((y + 1 : Nat) : Int) = (y : Int) + 1 by omega, a, b]
    by_cases hm : (y : Int) ∈ pk
    · rw [if_pos hm, if_neg (fun h => ((hc.2 _).1 h).2 hm)]
      omega
    · rw [if_neg hm, if_pos ((hc.2 _).2 ⟨⟨by omega, by omega⟩, hm⟩)]
      omega
theorem count_at {l : List Int} (h : l.Pairwise (· < ·)) : ∀ x : Nat, (hx : x < l.length) → l.countP (· < l[x]) = x := by
  induction l with
  | nil => intro x hx; simp at hx
  | cons p t ih =>
    intro x hx
    rw [List.pairwise_cons] at h
    cases x with
    | zero =>
      simp only [List.getElem_cons_zero]
      rw [List.countP_eq_zero]
      intro y hy
      simp only [decide_eq_true_eq]
      rcases List.mem_cons.1 hy with rfl | hy
      · omega
      · have := h.1 y hy
        omega
    | succ x =>
      simp only [List.length_cons] at hx
      simp only [List.getElem_cons_succ]
      have := h.1 t[x] (List.getElem_mem _)
      rw [List.countP_cons_of_pos (by simpa using this), ih h.2 x (by omega)]
theorem comp_step {pk rest : List Int} {n : Int} (hu : Up 0 n pk) (hc : Comp pk rest n) (hn : n ≤ 9223372036854775807) (x : Nat) (hx : x < rest.length) :
    bump pk (x : Int) = (rest[x], pk.countP (· < rest[x])) ∧ Up 0 n (insP pk (rest[x], pk.countP (· < rest[x]))) ∧ Comp (insP pk (rest[x], pk.countP (· < rest[x]))) (rest.take x ++ rest.drop (x + 1)) n := by
  obtain ⟨y, hy⟩ : ∃ y, y = rest[x] := ⟨_, rfl⟩
  have hm : y ∈ rest := by rw [hy]; exact List.getElem_mem _
  obtain ⟨⟨h0, hl⟩, hnp⟩ := (hc.2 y).1 hm
  have hca := count_at hc.1 x hx
  rw [← hy] at hca ⊢
  obtain ⟨z, rfl⟩ : ∃ z : Nat, y = (z : Int) := ⟨y.toNat, by omega⟩
  have hcc := comp_count hu hc z (by omega)
  rw [hca] at hcc
  have hb := bump_at hu (by omega) hn (z : Int) h0 hl hnp
  rw [show (z : Int) - ((pk.countP (· < (z : Int)) : Nat) : Int) = (x : Int) by omega] at hb
  refine ⟨hb, up_ins hu h0 hl hnp, ?_, fun v => ?_⟩
  · have hs : (rest.take x ++ rest.drop (x + 1)).Sublist rest := by
      conv => rhs; rw [← List.take_append_drop x rest]
      refine List.Sublist.append (List.Sublist.refl _) ?_
      rw [List.drop_eq_getElem_cons hx]
      exact List.sublist_cons_self _ _
    exact hc.1.sublist hs
  · have hsp : rest = rest.take x ++ (z : Int) :: rest.drop (x + 1) := by
      conv => lhs; rw [← List.take_append_drop x rest, List.drop_eq_getElem_cons hx, ← hy]
    have hpw := hc.1
    rw [hsp, List.pairwise_append, List.pairwise_cons] at hpw
    obtain ⟨_, ⟨q1, _⟩, q2⟩ := hpw
    have hv := hc.2 v
    rw [hsp] at hv
    simp only [List.mem_append, List.mem_cons] at hv ⊢
    rw [mem_ins]
    constructor
    · rintro (h | h)
      · have h2 := q2 v h (z : Int) List.mem_cons_self
        obtain ⟨a, b⟩ := hv.1 (.inl h)
        exact ⟨a, fun e => by rcases e with e | e; omega; exact b e⟩
      · have h2 := q1 v h
        obtain ⟨a, b⟩ := hv.1 (.inr (.inr h))
        exact ⟨a, fun e => by rcases e with e | e; omega; exact b e⟩
    · rintro ⟨a, b⟩
      rcases hv.2 ⟨a, fun e => b (.inr e)⟩ with h | h | h
      · exact .inl h
      · exact absurd (.inl h) b
      · exact .inr h
theorem rd_dropI (L : List Int) (a j : Nat) : rd (L.drop a) (j : Int) = rd L ((a + j : Nat) : Int) := by
  unfold rd
  rw [Int.toNat_natCast, Int.toNat_natCast]
  simp [List.getD]
theorem nxt_md (L : List Int) (at_ : Nat) (n : Int) (h1 : ¬ n < 1) (h2 : at_ < L.length) : nxt L at_ n = (md (rd L (at_ : Int)) n, true, at_ + 1) := by
  unfold nxt md
  rw [if_neg h1, if_neg (by omega)]
  split <;> rfl
theorem pick_eq (L : List Int) (n : Int) (hn : n ≤ 1000000) (at0 : Nat) (d : Nat) : ∀ (i : Nat) (pk rest out : List Int), Up 0 n pk → Comp pk rest n → ((rest.length : Nat) : Int) = n - (i : Int) → ((i + d : Nat) : Int) ≤ n → at0 + i + d ≤ L.length →
    pickL L n d (i : Int) (at0 + i) out pk = (rpL (L.drop at0) d i rest out, true, at0 + i + d) := by
  induction d with
  | zero => intro i pk rest out _ _ _ _ _; simp [pickL, rpL]
  | succ d ih =>
    intro i pk rest out hu hc hl hd hL
    have hw : wrap64 (n - (i : Int)) = n - (i : Int) := w64 (by omega) (by omega)
    rw [pickL, hw, nxt_md L (at0 + i) (n - (i : Int)) (by omega) (by omega), rpL, rd_dropI, hl]
    obtain ⟨g1, g2⟩ := md_range (rd L ((at0 + i : Nat) : Int)) (n - (i : Int)) (by omega) (by omega)
    obtain ⟨x, hx⟩ : ∃ x : Nat, md (rd L ((at0 + i : Nat) : Int)) (n - (i : Int)) = (x : Int) := ⟨_, (Int.toNat_of_nonneg g1).symm⟩
    rw [hx] at g1 g2 ⊢
    have hxl : x < rest.length := by omega
    obtain ⟨b1, b2, b3⟩ := comp_step hu hc (by omega) x hxl
    simp only [if_true, b1, Int.toNat_natCast]
    have hr : rd rest (x : Int) = rest[x] := by simp [rd, hxl]
    rw [hr]
    have h := ih (i + 1) _ _ (out ++ [rest[x]]) b2 b3 (by rw [List.length_append, List.length_take, List.length_drop]; omega) (by omega) (by omega)
    rw [show at0 + i + 1 = at0 + (i + 1) by omega, show (i : Int) + 1 = ((i + 1 : Nat) : Int) by omega, h]
    simp
    omega
theorem pick_short (L : List Int) (n : Int) (hn : n ≤ 1000000) (d : Nat) : ∀ (i at_ : Nat) (pk out : List Int), ((i + d : Nat) : Int) ≤ n → at_ ≤ L.length → L.length < at_ + d → pickL L n d (i : Int) at_ out pk = ([], false, L.length) := by
  induction d with
  | zero => intro i at_ pk out _ _ h; omega
  | succ d ih =>
    intro i at_ pk out hd ha h
    have hw : wrap64 (n - (i : Int)) = n - (i : Int) := w64 (by omega) (by omega)
    rw [pickL, hw]
    by_cases c : at_ < L.length
    · rw [nxt_md L at_ (n - (i : Int)) (by omega) c]
      simp only [if_true]
      rw [show (i : Int) + 1 = ((i + 1 : Nat) : Int) by omega]
      exact ih (i + 1) (at_ + 1) _ _ (by omega) (by omega) (by omega)
    · have e : at_ = L.length := by omega
      subst e
      have hx : nxt L L.length (n - (i : Int)) = (0, false, L.length) := by
        unfold nxt
        rw [if_neg (by omega), if_pos (by omega)]
      rw [hx]
      simp
theorem comp_start (n : Nat) : Comp [] (rangeI n) (n : Int) := by
  refine ⟨?_, fun v => ?_⟩
  · unfold rangeI
    rw [List.pairwise_map]
    exact List.pairwise_lt_range.imp (fun h => by omega)
  · unfold rangeI
    simp only [List.mem_map, List.mem_range, List.not_mem_nil, not_false_eq_true, and_true]
    constructor
    · rintro ⟨i, hi, rfl⟩
      omega
    · intro h
      exact ⟨v.toNat, by omega, by omega⟩
/-- Both answers, and what is left behind them. -/
theorem pick_both (L : List Int) (at_ : Nat) (ha : at_ ≤ L.length) (n k : Int) (hn : n ≤ 1000000) :
    (pickS L at_ n k).1 = (rpS (L.drop at_) n k).1 ∧ (pickS L at_ n k).2.1 = (rpS (L.drop at_) n k).2.1 ∧ (rpS (L.drop at_) n k).2.2 = L.drop (pickS L at_ n k).2.2 ∧ (pickS L at_ n k).2.2 ≤ L.length := by
  unfold pickS rpS
  by_cases h : n < 0 ∨ k < 0 ∨ k > n
  · rw [if_pos h, if_pos h]
    exact ⟨rfl, rfl, rfl, ha⟩
  rw [if_neg h, if_neg h]
  obtain ⟨K, rfl⟩ : ∃ K : Nat, k = (K : Int) := ⟨k.toNat, by omega⟩
  obtain ⟨M, rfl⟩ : ∃ M : Nat, n = (M : Int) := ⟨n.toNat, by omega⟩
  rw [Int.toNat_natCast, Int.toNat_natCast]
  by_cases h4 : ((L.drop at_).length : Int) < (K : Int)
  · rw [if_pos h4]
    rw [List.length_drop] at h4
    have := pick_short L (M : Int) hn K 0 at_ [] [] (by omega) ha (by omega)
    rw [show ((0 : Nat) : Int) = 0 from rfl] at this
    rw [this]
    simp
  · rw [if_neg h4]
    rw [List.length_drop] at h4
    have := pick_eq L (M : Int) hn at_ K 0 [] (rangeI M) [] ⟨List.Pairwise.nil, by simp⟩ (comp_start M) (by rw [rangeI_len]; simp) (by omega) (by omega)
    rw [show ((0 : Nat) : Int) = 0 from rfl, Nat.add_zero] at this
    rw [this]
    simp [List.drop_drop]
    omega
theorem next_both (L : List Int) (at_ : Nat) (ha : at_ ≤ L.length) (n : Int) :
    (nxt L at_ n).1 = (rnS (L.drop at_) n).1 ∧ (nxt L at_ n).2.1 = (rnS (L.drop at_) n).2.1 ∧ (rnS (L.drop at_) n).2.2 = L.drop (nxt L at_ n).2.2 ∧ (nxt L at_ n).2.2 ≤ L.length := by
  unfold rnS
  by_cases h : n < 1
  · unfold nxt
    rw [if_pos h, if_pos h]
    exact ⟨rfl, rfl, rfl, ha⟩
  rw [if_neg h]
  by_cases h2 : (L.drop at_).length = 0
  · rw [if_pos h2]
    rw [List.length_drop] at h2
    unfold nxt
    rw [if_neg h, if_pos h2]
    exact ⟨rfl, rfl, rfl, ha⟩
  · rw [if_neg h2]
    rw [List.length_drop] at h2
    rw [nxt_md L at_ n h (by omega), show (0 : Int) = ((0 : Nat) : Int) from rfl, rd_dropI, Nat.add_zero]
    exact ⟨rfl, rfl, by simp [List.drop_drop], by show at_ + 1 ≤ L.length; omega⟩

theorem rpL_len (l : List Int) (d : Nat) : ∀ j rest out, (rpL l d j rest out).length ≤ out.length + d := by
  induction d with
  | zero => intro j rest out; simp [rpL]
  | succ d ih =>
    intro j rest out
    rw [rpL]
    refine Nat.le_trans (ih _ _ _) ?_
    simp
    omega
theorem rpS_len (l : List Int) (n k : Int) (hl : l.length ≤ 200) : (rpS l n k).1.length ≤ 200 := by
  unfold rpS
  split
  · simp
  split
  · simp
  · refine Nat.le_trans (rpL_len _ _ _ _ _) ?_
    simp
    omega
theorem pl_ev (L : List Int) (hL : L.length ≤ 200) (l1 : List S28) : ∀ at_, at_ ≤ L.length → Ev (fun k => haulierlaw34_DrawPlays.pl k L l1 at_ (L.drop at_)) true := by
  induction l1 with
  | nil => intro at_ _; exact Ev.now _
  | cons x t ih =>
    intro at_ ha
    simp only [haulierlaw34_DrawPlays.pl]
    by_cases hp : x.f0 = true
    · simp only [if_pos hp]
      by_cases hn : x.f1 > 200
      · simp only [if_pos hn]
        exact Ev.now _
      · simp only [if_neg hn]
        obtain ⟨g1, g2, g3, g4⟩ := pick_both L at_ ha x.f1 x.f2 (by omega)
        simp only [g1, g2, g3]
        rw [show (L.drop (pickS L at_ x.f1 x.f2).2.2).length = L.length - (pickS L at_ x.f1 x.f2).2.2 from List.length_drop]
        simp only [and_self, if_true]
        refine Ev.bind (same07_f _ (Nat.le_trans (rpS_len _ _ _ (by rw [List.length_drop]; omega)) (by omega))) ?_
        simp only [if_true]
        exact ih _ g4
    · simp only [if_neg hp]
      obtain ⟨g1, g2, g3, g4⟩ := next_both L at_ ha x.f1
      simp only [g1, g2, g3]
      rw [show (L.drop (nxt L at_ x.f1).2.2).length = L.length - (nxt L at_ x.f1).2.2 from List.length_drop]
      simp only [and_self, if_true]
      exact ih _ g4
theorem DrawPlays : haulierlaw34_DrawPlays.Pure := by
  intro l asks
  intros
  refine Ev.rounds ?_
  unfold haulierlaw34_DrawPlays.f
  by_cases h1 : 200 < l.length
  · simp only [if_pos h1]
    exact Ev.now _
  by_cases h2 : 40 < asks.length
  · simp only [if_neg h1, if_pos h2]
    exact Ev.now _
  simp only [if_neg h1, if_neg h2]
  exact pl_ev l (by omega) asks 0 (by omega)


end Go.Proofs.Ytabhikacghkcgaa.Pure
