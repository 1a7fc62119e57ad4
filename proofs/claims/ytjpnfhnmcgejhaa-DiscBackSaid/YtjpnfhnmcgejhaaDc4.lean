/- Records beside a writer: from memory of a call's own. -/
import Derived.Test.YtjpnfhnmcgejhaaDc3
import Derived.Laws.EntriesVeiled
namespace Go.Proofs.Ytjpnfhnmcgejhaa.Dc4
open Go.RowKit Go.Proofs.YtjpnfhnmcgejhaaW.PrintWords Go.Proofs.YtjpnfhnmcgejhaaW.PrintLast Go.Proofs.YtjpnfhnmcgejhaaW.PrintMore Go.Proofs.Ytjpnfhnmcgejhaa.Dc1 Go.Proofs.Ytjpnfhnmcgejhaa.Dc2 Go.Proofs.Ytjpnfhnmcgejhaa.Dc3
set_option linter.unusedVariables false
set_option linter.unusedSimpArgs false
theorem RC_at {w w1 : World} {g : Nat} {A : Option Addr} {xs : List It} (h : RC w g A xs) (hk : ∀ ad, A = some ad → 0 < xs.length → w1.heap[ad.block]? = w.heap[ad.block]?) (hs : w.heap.size ≤ w1.heap.size) : RC w1 g A xs := by
  obtain ⟨⟨h1, h2, h3⟩, h4⟩ := h
  refine ⟨⟨h1, h2, fun hp => ?_⟩, fun ad e hp => ⟨(h4 ad e hp).1, Nat.lt_of_lt_of_le (h4 ad e hp).2 hs⟩⟩
  obtain ⟨ad, e, hc⟩ := h3 hp
  refine ⟨ad, e, fun j p hj => ?_⟩
  obtain ⟨c, hs, hr, hcell⟩ := hc j p hj
  refine ⟨c, hs, ?_, fun i u hu => ?_⟩
  · obtain ⟨_, _, rfl, rfl, ⟨_, _, rfl, rfl, rfl⟩⟩ := hr
    exact ⟨[.int .i64 p.1], [.int .i64 p.2.1, .int .i64 p.2.2], rfl, rfl, ⟨[.int .i64 p.2.1], [.int .i64 p.2.2], rfl, rfl, rfl⟩⟩
  · have e2 : w1.cell? (ad.add (j * kdi.sz + i)) = w.cell? (ad.add (j * kdi.sz + i)) := by
      unfold World.cell?
      rw [Dc2.add_block, hk ad e hp]
    exact e2.trans (hcell i u hu)
theorem C_map {β : Type} {f : β → It} {w : World} {A : Option Addr} {n : Nat} {xs : List β} (h : Kd.C (Kd.iso kdi f) w A n xs) : Kd.C kdi w A n (xs.map f) := by
  obtain ⟨h1, h2, h3⟩ := h
  refine ⟨by rw [← h1, List.length_map], h2, fun hp => ?_⟩
  obtain ⟨ad, e, hc⟩ := h3 hp
  refine ⟨ad, e, fun j p hj => ?_⟩
  rw [List.getElem?_map] at hj
  obtain ⟨q, hq, rfl⟩ := Option.map_eq_some_iff.1 hj
  exact hc j q hq
/-- Records of a call's own, behind a block that is made anew. -/
theorem RC_new {β : Type} {f : β → It} {w w1 : World} {base : Nat} {ok : Nat → Prop} {A : Option Addr} {n c g : Nat} {xs : List β} (h : Kd.R (Kd.iso kdi f) 48 w base ok (.slice A n c) xs) (hg : w.heap.size ≤ g) (hb : Below w.heap.size w w1) : RC w1 g A (xs.map f) ∧ ∀ ad, A = some ad → 0 < (xs.map f).length → ad.block < g := by
  obtain ⟨h1, h2, h3⟩ := Kd.R_reads' h
  have hlt : ∀ ad, A = some ad → ad.block < w.heap.size := fun ad e => by
    subst e
    exact Kd.R_lt h ad.block rfl
  refine ⟨⟨Kd.C_below (by rw [List.length_map]; exact C_map h3) hb, fun ad e hp => ?_⟩, fun ad e hp => ?_⟩
  · have := hlt ad e
    exact ⟨by omega, Nat.lt_of_lt_of_le this hb.size⟩
  · have := hlt ad e
    omega
theorem RC.at0 {w : World} {g : Nat} {ad : Addr} {xs : List It} {k f t : Int} (h : RC w g (some ad) xs) (hx : 0 < xs.length ∧ ri xs 0 = (k, f, t)) : w.cell? ⟨ad.block, ad.off + 1, none⟩ = some (.int .i64 f) := by
  obtain ⟨a, e, h1, h2, h3⟩ := at_H h.1 0 hx.1
  cases e
  rw [hx.2] at h2
  rw [Nat.zero_mul] at h2
  rw [show ad.add 0 = ad by cases ad; rfl] at h2
  exact h2
theorem RC.atE {w : World} {g : Nat} {ad : Addr} {xs : List It} {i : Nat} {k f t : Int} (h : RC w g (some ad) xs) (hx : i < xs.length ∧ ri xs i = (k, f, t)) : w.cell? ⟨(ad.add (i * 3)).block, (ad.add (i * 3)).off + 2, none⟩ = some (.int .i64 t) := by
  obtain ⟨a, e, h1, h2, h3⟩ := at_H h.1 i hx.1
  cases e
  rw [hx.2] at h3
  exact h3
/-- The bytes of records, ahead of their sum. -/
def encB (L : List It) : ByteArray := dayB (dys L false ((((⟨#[72, 68]⟩ : ByteArray) ++ putB (ri L 0).2.1) ++ putB (ri L (L.length - 1)).2.2), [])).1 (dys L false ((((⟨#[72, 68]⟩ : ByteArray) ++ putB (ri L 0).2.1) ++ putB (ri L (L.length - 1)).2.2), [])).2
def GoodR (L : List It) : Prop := L.length ≤ 2000 ∧ ∀ r ∈ L, (0 ≤ r.1 ∧ r.1 ≤ 3) ∧ (0 ≤ r.2.1 ∧ r.2.1 ≤ 40320) ∧ 0 ≤ r.2.2 ∧ r.2.2 ≤ 40320
instance (L : List It) : Decidable (GoodR L) := by
  unfold GoodR
  infer_instance
end Go.Proofs.Ytjpnfhnmcgejhaa.Dc4
