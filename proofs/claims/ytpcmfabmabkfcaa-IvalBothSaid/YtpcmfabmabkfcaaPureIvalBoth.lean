/- What two spans share, what they cover together, whether they meet, whether a span is one and whether it holds a minute is what the reference says: for all spans and numbers of 64 bits. -/
import Derived.Test.YtpcmfabmabkfcaaMIvalBothx3
set_option linter.unusedVariables false
set_option linter.unusedSimpArgs false
namespace Go.Proofs.Ytpcmfabmabkfcaa.Pure
open Go.RowKit Go.Proofs.Ytpcmfabmabkfcaa.MIvalBoth Go.Proofs.YtpcmfabmabkfcaaW.PrintWords Go.Proofs.YtpcmfabmabkfcaaW.PrintLast

theorem w64 {x : Int} (h0 : -9223372036854775808 ≤ x) (h1 : x ≤ 9223372036854775807) : wrap64 x = x := by
  unfold wrap64
  omega
theorem tmod_nn {a : Int} (h : 0 ≤ a) (b : Int) : Int.tmod a b = a % b := by
  rw [Int.tmod_eq_emod_of_nonneg h]
theorem tdiv_nn {a : Int} (h : 0 ≤ a) (b : Int) : Int.tdiv a b = a / b := by
  rw [Int.tdiv_eq_ediv_of_nonneg h]
theorem ev_succ {α : Type} {g : Nat → Option α} {r : α} (h : Ev (fun k => g (k + 1)) r) : Ev g r := by
  obtain ⟨K, h⟩ := h
  refine ⟨K + 1, fun n hn => ?_⟩
  obtain ⟨m, rfl⟩ : ∃ m, n = m + 1 := ⟨n - 1, by omega⟩
  exact h m (by omega)

def IR (x : Int) : Prop := -9223372036854775808 ≤ x ∧ x ≤ 9223372036854775807
theorem ir_of {x : Int} (h : (Lit.int .i64 x).wf = true) : IR x := by simpa [IR, Lit.wf, IntKind.min, IntKind.max, IntKind.signed, IntKind.bits] using h
theorem rd_drop (xs : List Int) (i : Nat) (h : i < xs.length) : xs.drop i = rd xs (i : Int) :: xs.drop (i + 1) := by
  rw [List.drop_eq_getElem_cons h]
  simp [rd, h]
theorem rd_mem (xs : List Int) (i : Nat) (h : i < xs.length) : rd xs (i : Int) ∈ xs := by
  simp [rd, h]

def hasS (a b m : Int) : Bool := decide (a ≤ m) && decide (m < b)
theorem has_f (a b m : Int) : ival_Has.f a b m = some (hasS a b m) := by
  unfold ival_Has.f hasS
  by_cases h : a ≤ m
  · rw [if_pos h]; simp [h]
  · rw [if_neg h]; simp [h]

def bothS (a b c d : Int) : Int × Int × Bool := if mx a c < mn b d then (mx a c, mn b d, true) else (0, 0, false)
theorem both_f (a b c d : Int) : ival_Both.f a b c d = some (bothS a b c d) := by
  unfold ival_Both.f ival_Right.f bothS
  simp only [Option.bind_some, decide_eq_true_eq]
  split <;> rfl
theorem meets_f (a b c d : Int) : ival_Meets.f a b c d = some (decide (mx a c < mn b d)) := by
  unfold ival_Meets.f
  rw [both_f]
  simp only [Option.bind_some, bothS]
  by_cases h : mx a c < mn b d
  · simp only [if_pos h, h, decide_true, Option.some.injEq, Bool.or_eq_true]
    by_cases e : mx a c = 0
    · right
      have : mn b d ≠ 0 := by omega
      simp [this]
    · left
      simp [e]
  · simp [if_neg h, h]
theorem ialive_f : haulierlaw02_alive.f = some true := by
  unfold haulierlaw02_alive.f
  rw [both_f, meets_f]
  rfl

def hullS (a b c d : Int) : Int × Int × Bool := if a < b ∧ c < d then (mn a c, mx b d, true) else (0, 0, false)
theorem hull_f (a b c d : Int) : ival_Hull.f a b c d = some (hullS a b c d) := by
  unfold ival_Hull.f ival_Right.f hullS
  simp only [Option.bind_some, decide_eq_true_eq]
  by_cases h1 : a < b
  · by_cases h2 : c < d
    · rw [if_pos h1, if_pos h2, if_pos ⟨h1, h2⟩]
    · rw [if_pos h1, if_neg h2, if_neg (fun h => h2 h.2)]
  · rw [if_neg h1, if_neg (fun h => h1 h.1)]

theorem rboth_f (a b c d : Int) : Ev (fun k => haulierref02_Both.f k a b c d) (bothS a b c d) := by
  have key : ∀ m : Int, m = mx a c → Ev (fun k => haulierref02_Both.j0 k c d m b) (bothS a b c d) := by
    intro m hm
    subst hm
    refine ev_succ ?_
    simp only [haulierref02_Both.j0, haulierref02_Right.f, Option.bind_some, decide_eq_true_eq, bothS]
    by_cases h : d < b
    · have e : mn b d = d := by unfold mn; rw [if_pos h]
      simp only [if_pos h, e]
      by_cases h2 : mx a c < d
      · simp only [if_pos h2]; exact Ev.now _
      · simp only [if_neg h2]; exact Ev.now _
    · have e : mn b d = b := by unfold mn; rw [if_neg h]
      simp only [if_neg h, e]
      by_cases h2 : mx a c < b
      · simp only [if_pos h2]; exact Ev.now _
      · simp only [if_neg h2]; exact Ev.now _
  unfold haulierref02_Both.f
  by_cases h : c > a
  · simp only [if_pos h]
    exact key c (by unfold mx; rw [if_pos h])
  · simp only [if_neg h]
    exact key a (by unfold mx; rw [if_neg h])
theorem rhull_j0 (a b c d : Int) (z : Bool) (hz : z = true ↔ ¬ (a < b ∧ c < d)) : Ev (fun k => haulierref02_Hull.j0 k z a b c d) (hullS a b c d) := by
  refine ev_succ ?_
  simp only [haulierref02_Hull.j0, hullS]
  by_cases h : z = true
  · simp only [if_pos h, if_neg (hz.1 h)]
    exact Ev.now _
  · simp only [if_neg h, if_pos (Classical.byContradiction fun h2 => h (hz.2 h2))]
    by_cases h3 : c < a
    · have e : mn a c = c := by unfold mn; rw [if_pos h3]
      by_cases h4 : d > b
      · have e2 : mx b d = d := by unfold mx; rw [if_pos h4]
        simp only [if_pos h3, if_pos h4, e, e2]; exact Ev.now _
      · have e2 : mx b d = b := by unfold mx; rw [if_neg h4]
        simp only [if_pos h3, if_neg h4, e, e2]; exact Ev.now _
    · have e : mn a c = a := by unfold mn; rw [if_neg h3]
      by_cases h4 : d > b
      · have e2 : mx b d = d := by unfold mx; rw [if_pos h4]
        simp only [if_neg h3, if_pos h4, e, e2]; exact Ev.now _
      · have e2 : mx b d = b := by unfold mx; rw [if_neg h4]
        simp only [if_neg h3, if_neg h4, e, e2]; exact Ev.now _
theorem rhull_f (a b c d : Int) : Ev (fun k => haulierref02_Hull.f k a b c d) (hullS a b c d) := by
  unfold haulierref02_Hull.f haulierref02_Right.f
  simp only [Option.bind_some, decide_eq_true_eq]
  by_cases h : a < b
  · simp only [if_pos h]
    exact rhull_j0 a b c d _ (by simp [h])
  · simp only [if_neg h]
    exact rhull_j0 a b c d _ (by simp [h])
theorem IvalBoth : haulierlaw02_IvalBoth.Pure := by
  intro a b c d m _ _ _ _ _
  refine Ev.rounds ?_
  unfold haulierlaw02_IvalBoth.f
  simp only [both_f, hull_f, meets_f, has_f, ialive_f, ival_Right.f, haulierref02_Right.f, Option.bind_some]
  refine Ev.bind (rboth_f a b c d) (Ev.bind (rhull_f a b c d) ?_)
  have e1 : (bothS a b c d).2.2 = decide (mx a c < mn b d) := by
    unfold bothS
    by_cases h : mx a c < mn b d
    · rw [if_pos h]; simp [h]
    · rw [if_neg h]; simp [h]
  have e2 : haulierref02_Has.f a b m = some (hasS a b m) := by
    unfold haulierref02_Has.f hasS
    by_cases h : a ≤ m
    · rw [if_pos h]; simp [h]
    · rw [if_neg h]; simp [h]
  simp only [e1, e2, beq_self_eq_true, Bool.and_self, if_true, Option.bind_some]
  exact Ev.now _


end Go.Proofs.Ytpcmfabmabkfcaa.Pure
