/- How an argument that can be read as data reads as a value of the printed kinds: whole numbers, bools, texts, structs, slices of any of these, for every world and every reading. -/
import Derived.Test.YtcofibbgdnbejaaWWords
import Derived.ChangeArms
import Derived.Deep.Slices
import Derived.WideShapes
set_option linter.unusedVariables false
namespace Go.Proofs.YtcofibbgdnbejaaRdd
open Go.RowKit Go.Proofs.YtcofibbgdnbejaaW.PrintWords
/-- What type t reads as is a value of kind d that is ok. -/
def Rdd {α : Type} (P : Program) (t : TypeId) (d : Kd α) (ok : α → Prop) : Prop :=
  ∀ (H : Type) (enc : TypeId × Value → H) (w : World) (base : Nat) (spare : Nat → Bool) (held : Bool) (fuel : Nat) (cs : List Value) (x : DataW H × List MemPlace), DataW.trod enc P w base spare held fuel t cs = some x → ∃ v : α, d.K w v cs ∧ ok v
theorem Rdd.int {P : Program} {t : TypeId} {k : IntKind} (ht : P.underlying t = some (.int k)) : Rdd P t (Kd.int k) (fun x => (Lit.int k x).wf = true) := by
  intro H enc w base spare held fuel cs x h
  obtain ⟨n, rfl, _, hw⟩ := DataW.trod_int ht h
  exact ⟨n, rfl, hw⟩
theorem Rdd.bool {P : Program} {t : TypeId} (ht : P.underlying t = some .bool) : Rdd P t Kd.bool (fun _ => True) := by
  intro H enc w base spare held fuel cs x h
  obtain ⟨n, rfl, _⟩ := DataW.trod_bool ht h
  exact ⟨n, rfl, trivial⟩
theorem Rdd.mono {α : Type} {P : Program} {t : TypeId} {d : Kd α} {ok ok' : α → Prop} (h : Rdd P t d ok) (hk : ∀ x, ok x → ok' x) : Rdd P t d ok' := by
  intro H enc w base spare held fuel cs x hx
  obtain ⟨v, hv, ho⟩ := h H enc w base spare held fuel cs x hx
  exact ⟨v, hv, hk v ho⟩
theorem Rdd.iso {α β : Type} {P : Program} {t : TypeId} {d : Kd α} {ok : α → Prop} (h : Rdd P t d ok) (f : β → α) (g : α → β) (hfg : ∀ x, f (g x) = x) : Rdd P t (Kd.iso d f) (fun y => ok (f y)) := by
  intro H enc w base spare held fuel cs x hx
  obtain ⟨v, hv, ho⟩ := h H enc w base spare held fuel cs x hx
  refine ⟨g v, ?_, by show ok (f (g v)); rw [hfg]; exact ho⟩
  show d.K w (f (g v)) cs
  rw [hfg]
  exact hv
theorem cells_at {w : World} {base : Nat} {a : Addr} {n : Nat} {cs : List Value} (h : w.cells? base a n = some cs) : cs.length = n ∧ ∀ i u, cs[i]? = some u → w.cell? (a.add i) = some u := by
  obtain ⟨_, hl, hc⟩ := World.cells?_some h
  refine ⟨hl, fun i u hu => ?_⟩
  have hi : i < n := by
    have := (List.getElem?_eq_some_iff.1 hu).1
    omega
  rw [hc i hi, hu]
theorem Rdd.slice {α : Type} {P : Program} {t e : TypeId} {d : Kd α} {ok : α → Prop} (ht : P.underlying t = some (.slice e)) (hsz : P.cellsOf e = d.sz) (hd : Rdd P e d ok) : Rdd P t (Kd.slice e d) (fun l => l.length ≤ maxLen ∧ ∀ x ∈ l, ok x) := by
  intro H enc w base spare held fuel cs x hx
  rcases Go.Deep.open_slice ht hx with ⟨rfl, _⟩ | ⟨a, len, cap, m, n, D, Pl, rfl, _, hl, hm, hmm, hx0, hel⟩
  · exact ⟨[], ⟨none, 0, rfl, Nat.le_refl _, rfl, by simp, fun h => absurd h (by simp)⟩, by simp, by simp⟩
  · have hel2 : ∀ i, i < len → ∃ v : α, ∃ c, c.length = d.sz ∧ d.K w v c ∧ ok v ∧ ∀ j u, c[j]? = some u → w.cell? (a.add (i * d.sz + j)) = some u := by
      intro i hi
      obtain ⟨c, h1, h2⟩ := hel i (by rw [hmm]; split <;> omega)
      obtain ⟨v, hv, ho⟩ := hd H enc w base spare held n c _ h2
      obtain ⟨h3, h4⟩ := cells_at h1
      refine ⟨v, c, by rw [h3, hsz], hv, ho, fun j u hu => ?_⟩
      have := h4 j u hu
      rwa [Go.Deep.add_add, hsz] at this
    have : ∃ l : List α, l.length = len ∧ ∀ i v, l[i]? = some v → ∃ c, c.length = d.sz ∧ d.K w v c ∧ ok v ∧ ∀ j u, c[j]? = some u → w.cell? (a.add (i * d.sz + j)) = some u := by
      clear hx hx0 hel hmm hl hm
      induction len with
      | zero => exact ⟨[], rfl, by simp⟩
      | succ k ih =>
        obtain ⟨l, hl, hi⟩ := ih (fun i hi => hel2 i (by omega))
        obtain ⟨v, hv⟩ := hel2 k (by omega)
        refine ⟨l ++ [v], by simp [hl], fun i u hu => ?_⟩
        rcases Nat.lt_or_ge i l.length with hlt | hge
        · rw [List.getElem?_append_left hlt] at hu
          exact hi i u hu
        · rw [List.getElem?_append_right hge] at hu
          have h0 : i - l.length = 0 := by
            have := (List.getElem?_eq_some_iff.1 hu).1
            simp at this
            omega
          rw [h0] at hu
          simp at hu
          subst hu
          have : i = k := by omega
          subst this
          exact hv
    obtain ⟨l, hll, hli⟩ := this
    subst hll
    refine ⟨l, ⟨some a, cap, rfl, hl, rfl, by unfold maxLen at hm; omega, fun _ => ⟨a, rfl, fun j p hp => ?_⟩⟩, by omega, fun x hx => ?_⟩
    · obtain ⟨c, h1, h2, _, h4⟩ := hli j p hp
      exact ⟨c, h1, h2, h4⟩
    · obtain ⟨i, hi⟩ := List.getElem?_of_mem hx
      obtain ⟨c, _, _, h3, _⟩ := hli i x hi
      exact h3
/-- Fields from a place on, as a kind. -/
def RS {α : Type} (P : Program) (fs : List Field) (off : Nat) (d : Kd α) (ok : α → Prop) : Prop :=
  ∀ (H : Type) (enc : TypeId × Value → H) (w : World) (base : Nat) (spare : Nat → Bool) (held : Bool) (cs : List Value), cs.length = off + d.sz →
    (∀ f, f ∈ fs → ∃ n x, DataW.trod enc P w base spare held n f.type ((cs.drop f.offset).take (P.cellsOf f.type)) = some x) → ∃ v : α, d.K w v (cs.drop off) ∧ ok v
theorem RS.one {α : Type} {P : Program} {f : Field} {off : Nat} {d : Kd α} {ok : α → Prop} (ho : f.offset = off) (hsz : P.cellsOf f.type = d.sz) (h : Rdd P f.type d ok) : RS P [f] off d ok := by
  intro H enc w base spare held cs hl hf
  obtain ⟨n, x, hx⟩ := hf f (by simp)
  rw [ho, hsz, List.take_of_length_le (by rw [List.length_drop]; omega)] at hx
  exact h H enc w base spare held n _ x hx
theorem RS.cons {α β : Type} {P : Program} {f : Field} {fs : List Field} {off : Nat} {d : Kd α} {d' : Kd β} {ok : α → Prop} {ok' : β → Prop} (ho : f.offset = off) (hsz : P.cellsOf f.type = d.sz) (h : Rdd P f.type d ok) {off' : Nat} (ho' : off' = off + d.sz) (h' : RS P fs off' d' ok') :
    RS P (f :: fs) off (Kd.pair d d') (fun p => ok p.1 ∧ ok' p.2) := by
  subst ho'
  intro H enc w base spare held cs hl hf
  have hl' : cs.length = off + (d.sz + d'.sz) := hl
  obtain ⟨n, x, hx⟩ := hf f (by simp)
  rw [ho, hsz] at hx
  obtain ⟨v, hv, hok⟩ := h H enc w base spare held n _ x hx
  obtain ⟨v', hv', hok'⟩ := h' H enc w base spare held cs (by omega) (fun g hg => hf g (List.mem_cons_of_mem _ hg))
  refine ⟨(v, v'), ⟨(cs.drop off).take d.sz, cs.drop (off + d.sz), ?_, hv, hv'⟩, hok, hok'⟩
  rw [← List.drop_drop, List.take_append_drop]
theorem Rdd.struct {α : Type} {P : Program} {t : TypeId} {fs : Array Field} {d : Kd α} {ok : α → Prop} (ht : P.underlying t = some (.struct fs)) (hsz : P.cellsOf t = d.sz) {l : List Field} (hl : fs.toList = l) (h : RS P l 0 d ok) : Rdd P t d ok := by
  intro H enc w base spare held fuel cs x hx
  obtain ⟨xs, n, _, _, hcl, hxl, hf⟩ := DataW.trod_struct ht hx
  obtain ⟨v, hv, hok⟩ := h H enc w base spare held cs (by omega) (fun f hfm => by
    rw [← hl] at hfm
    obtain ⟨i, hi, rfl⟩ := List.getElem_of_mem hfm
    have hi2 : i < fs.size := by simpa using hi
    have h1 := hf i fs[i] (by simp [hi2])
    rw [List.getElem?_eq_getElem (by omega)] at h1
    exact ⟨n, _, by simpa using h1⟩)
  exact ⟨v, by simpa using hv, hok⟩
/-- A slice that comes in. -/
theorem in_slice {α : Type} {H : Type} {enc : TypeId × Value → H} {P : Program} {w : World} {base : Nat} {spare : Nat → Bool} {held : Bool} {t e : TypeId} {d : Kd α} {ok : List α → Prop} (hd : Rdd P t (Kd.slice e d) ok) {a : Option Addr} {len cap : Nat} {x : DataW H} {ps : List MemPlace}
    (h : DataW.Trod enc P w base spare held t (.slice a len cap) x ps) : ∃ l : List α, len = l.length ∧ l.length ≤ cap ∧ d.C w a l.length l ∧ ok l := by
  obtain ⟨fuel, hf⟩ := h
  obtain ⟨l, ⟨A, c, he, hlc, hC⟩, ho⟩ := hd H enc w base spare held fuel _ _ hf
  simp only [Value.cells] at he
  obtain ⟨rfl, rfl, rfl⟩ : a = A ∧ len = l.length ∧ cap = c := by simpa using he
  exact ⟨l, rfl, hlc, hC, ho⟩
end Go.Proofs.YtcofibbgdnbejaaRdd
