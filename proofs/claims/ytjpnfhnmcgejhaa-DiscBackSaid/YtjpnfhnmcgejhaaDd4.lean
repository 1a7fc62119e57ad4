/- Decode, in plain words: days, the whole. -/
import Derived.Test.YtjpnfhnmcgejhaaDd3
namespace Go.Proofs.Ytjpnfhnmcgejhaa.Dd4
open Go.RowKit Go.Proofs.YtjpnfhnmcgejhaaW.PrintWords Go.Proofs.YtjpnfhnmcgejhaaW.PrintLast Go.Proofs.YtjpnfhnmcgejhaaW.PrintMore Go.Proofs.Ytjpnfhnmcgejhaa.Dc1 Go.Proofs.Ytjpnfhnmcgejhaa.Dc2 Go.Proofs.Ytjpnfhnmcgejhaa.Dc3 Go.Proofs.Ytjpnfhnmcgejhaa.Dc4 Go.Proofs.Ytjpnfhnmcgejhaa.Dd1 Go.Proofs.Ytjpnfhnmcgejhaa.Dd2 Go.Proofs.Ytjpnfhnmcgejhaa.Dd3
set_option linter.unusedVariables false
set_option linter.unusedSimpArgs false
def daysP (s : ByteArray) : Nat → Nat → Int → Int → List It → Option (List It × Nat)
  | 0, _, _, _, _ => none
  | d + 1, q, cur, to_, out => if cur < to_ then (dayP s q cur (if (cur / 1440 + 1) * 1440 < to_ then (cur / 1440 + 1) * 1440 else to_)).bind fun x => daysP s d x.2 ((cur / 1440 + 1) * 1440) to_ (out ++ x.1) else some (out, q)
def decP (s : ByteArray) : Option (List It) := (beginP s).bind fun ft => (daysP s 30 6 ft.1 ft.2 []).bind fun x => if x.2 < s.size then none else some x.1
def daysE (s : ByteArray) : Nat → Nat → Int → Int → Int × Int
  | 0, _, _, _ => (0, 7)
  | d + 1, q, cur, to_ => if cur < to_ then (match dayP s q cur (if (cur / 1440 + 1) * 1440 < to_ then (cur / 1440 + 1) * 1440 else to_) with
    | none => (((dayE s q cur (if (cur / 1440 + 1) * 1440 < to_ then (cur / 1440 + 1) * 1440 else to_)).2 : Int), (dayE s q cur (if (cur / 1440 + 1) * 1440 < to_ then (cur / 1440 + 1) * 1440 else to_)).1)
    | some x => daysE s d x.2 ((cur / 1440 + 1) * 1440) to_) else ((q : Int), 7)
def decE (s : ByteArray) : Int × Int := match beginP s with
  | none => beginE s
  | some ft => daysE s 30 6 ft.1 ft.2
theorem beginP_rng {s : ByteArray} {f u : Int} (h : beginP s = some (f, u)) : 0 ≤ f ∧ f < u ∧ u ≤ 40320 ∧ 6 ≤ s.size := by
  unfold beginP at h
  split at h
  · obtain ⟨a, ha, h⟩ := Option.bind_eq_some_iff.mp h
    obtain ⟨b, hb, h⟩ := Option.bind_eq_some_iff.mp h
    have h1 := num_rng ha
    have h2 := num_rng hb
    split at h
    · simp only [Option.some.injEq, Prod.mk.injEq] at h
      omega
    · cases h
  · cases h
theorem dayL_rng {s : ByteArray} {sf st : Int} (n : Nat) : ∀ (q : Nat) (out : List It) (l : List It) (q2 : Nat), dayL s sf st n q out = some (l, q2) → q + 2 * n = q2 ∧ l.length = out.length + n ∧ (q ≤ s.size → q2 ≤ s.size) := by
  induction n with
  | zero =>
    intro q out l q2 h
    simp only [dayL, Option.some.injEq, Prod.mk.injEq] at h
    obtain ⟨rfl, rfl⟩ := h
    exact ⟨by omega, by omega, fun h => h⟩
  | succ n ih =>
    intro q out l q2 h
    rw [dayL] at h
    obtain ⟨⟨x, q3⟩, hx, h⟩ := Option.bind_eq_some_iff.mp h
    obtain ⟨h1, h2, h3⟩ := ih _ _ _ _ h
    unfold chgP at hx
    obtain ⟨m, hm, hx⟩ := Option.bind_eq_some_iff.mp hx
    have hr := num_rng hm
    split at hx
    · simp only [Option.some.injEq, Prod.mk.injEq] at hx
      rw [List.length_append, lastTo_len, List.length_singleton] at h2
      dsimp only at h1 h3
      exact ⟨by omega, by omega, fun _ => h3 (by omega)⟩
    · cases hx
theorem dayP_rng {s : ByteArray} {sf st : Int} {q : Nat} {l : List It} {q2 : Nat} (h : dayP s q sf st = some (l, q2)) : q2 ≤ s.size ∧ l.length ≤ 65535 := by
  unfold dayP at h
  obtain ⟨n, hn, h⟩ := Option.bind_eq_some_iff.mp h
  have hr := num_rng hn
  split at h
  · cases h
  · have := dayL_rng _ _ _ _ _ h
    simp only [List.length_nil] at this
    exact ⟨this.2.2 (by omega), by omega⟩
end Go.Proofs.Ytjpnfhnmcgejhaa.Dd4
