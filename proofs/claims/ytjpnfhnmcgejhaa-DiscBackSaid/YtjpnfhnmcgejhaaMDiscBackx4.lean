/- Written by a program of this session: Go functions that the law DiscBack reaches, as Lean functions, each with a proof that the Go code comes to just what it says; every input of the kinds that a contract names. -/
import Derived.Test.YtjpnfhnmcgejhaaMDiscBackx0
import Derived.Test.YtjpnfhnmcgejhaaMDiscBackx2
import Derived.Test.YtjpnfhnmcgejhaaMDiscBackx3
namespace Go.Proofs.Ytjpnfhnmcgejhaa.MDiscBack
open Go.RowKit Go.Proofs.YtjpnfhnmcgejhaaW.PrintWords Go.Proofs.YtjpnfhnmcgejhaaW.PrintLast Go.Proofs.YtjpnfhnmcgejhaaW.PrintMore
attribute [local go_sem] max2_int min2_int max_two min_two max_three min_three max_four min_four   -- for this text's walks alone
set_option linter.unusedVariables false
set_option linter.unusedSimpArgs false
set_option linter.unnecessarySimpa false

/-- A state of type 60 at block g of W; what its slices lead to came in by w0. -/
def IsS60 (w0 W : World) (g : Nat) (f0 : ByteArray) (f1 : Int) : Prop := W.heap[g]? = some (.cells #[.string f0, .int .i64 f1] 60 (0, 0)) ∧ w0.heap.size ≤ g
theorem IsS60.grown {w0 W : World} {g : Nat} {f0 : ByteArray} {f1 : Int} {W1 : World} {row : Option Nat} (h : IsS60 w0 W g f0 f1) (hw : W.grownBy W1 row) (hne : some g ≠ row) : IsS60 w0 W1 g f0 f1 := by
  obtain ⟨hb, hg⟩ := h
  exact ⟨blk_grown hb hw hne, hg⟩
theorem IsS60.own_neN {w0 W : World} {g : Nat} {f0 : ByteArray} {f1 : Int} {α : Type} {d : Kd α} {e : Nat} {base : Nat} {ok : Nat → Prop} {v : Value} {xs : List α} (h : IsS60 w0 W g f0 f1) (ho : Kd.N d e W base ok v xs) (ht : e ≠ 60) : some g ≠ v.ownBlock := by
  obtain ⟨hb, hg⟩ := h
  exact Kd.N_ne ho hb ht
theorem IsS60.fresh {w0 W : World} {g : Nat} {f0 : ByteArray} {f1 : Int} (h : IsS60 w0 W g f0 f1) : ∀ k, W.heap.size ≤ k → k ≠ g := by
  obtain ⟨hb, hg⟩ := h
  exact Kd.freshB hb
theorem IsS60.kept {w0 W : World} {g : Nat} {f0 : ByteArray} {f1 : Int} {W1 : World} {S : Nat → Prop} (h : IsS60 w0 W g f0 f1) (hk : Kept W W1 S) (hne : ¬ S g) : IsS60 w0 W1 g f0 f1 := by
  obtain ⟨hb, hg⟩ := h
  exact ⟨blk_kept hb hk hne, hg⟩
theorem IsS60.below {w0 W : World} {g : Nat} {f0 : ByteArray} {f1 : Int} {W1 : World} (h : IsS60 w0 W g f0 f1) (hw : Below W.heap.size W W1) : IsS60 w0 W1 g f0 f1 := h.grown (grown_of_below hw none) (by simp)
theorem IsS60.alloc {w0 W : World} {g : Nat} {f0 : ByteArray} {f1 : Int} (h : IsS60 w0 W g f0 f1) (o : Obj) : IsS60 w0 (W.alloc o) g f0 f1 := h.below (below_alloc (Below.refl _ _) o)
theorem IsS60.drewN {w0 W : World} {g : Nat} {f0 : ByteArray} {f1 : Int} (h : IsS60 w0 W g f0 f1) (m : Nat) : IsS60 w0 (W.drewN m) g f0 f1 := h
theorem IsS60.drew {w0 W : World} {g : Nat} {f0 : ByteArray} {f1 : Int} (h : IsS60 w0 W g f0 f1) : IsS60 w0 W.drew g f0 f1 := h
theorem IsS60.at_ {w0 W : World} {g : Nat} {f0 : ByteArray} {f1 : Int} {w' : World} {m : Nat} (hq : W.drewN m = w') (h : IsS60 w0 W g f0 f1) : IsS60 w0 w' g f0 f1 := by subst hq; exact IsS60.drewN h m
theorem IsS60.apart {w0 W : World} {g : Nat} {f0 : ByteArray} {f1 : Int} {α : Type} {d : Kd α} {e : Nat} {base : Nat} {ok : Nat → Prop} {v : Value} {xs : List α} (h : IsS60 w0 W g f0 f1) (ho : d.R e W base ok v xs) (ht : ∀ q, q ∈ e :: d.E → q ≠ 60) : d.R e W base (fun k => ok k ∧ k ≠ g) v xs := by
  obtain ⟨hb, hg⟩ := h
  exact Kd.R_types ho hb ht
theorem IsS60.own_ne {w0 W : World} {g : Nat} {f0 : ByteArray} {f1 : Int} {α : Type} {d : Kd α} {e : Nat} {base : Nat} {ok : Nat → Prop} {v : Value} {xs : List α} (h : IsS60 w0 W g f0 f1) (ho : d.R e W base ok v xs) (ht : e ≠ 60) : some g ≠ v.ownBlock := by
  obtain ⟨hb, hg⟩ := h
  exact Kd.R_ne ho hb ht
theorem IsS60.apartQ {w0 W : World} {g : Nat} {f0 : ByteArray} {f1 : Int} {α : Type} {d : Kd α} {e : Nat} {base : Nat} {ok : Nat → Prop} {v : Value} {xs : List α} (h : IsS60 w0 W g f0 f1) (ho : d.Q e W base ok v xs) (ht : ∀ q, q ∈ e :: d.E → q ≠ 60) : d.Q e W base (fun k => ok k ∧ k ≠ g) v xs := by
  obtain ⟨hb, hg⟩ := h
  exact Kd.Q_types ho hb ht
theorem IsS60.own_neQ {w0 W : World} {g : Nat} {f0 : ByteArray} {f1 : Int} {α : Type} {d : Kd α} {e : Nat} {base : Nat} {ok : Nat → Prop} {v : Value} {xs : List α} (h : IsS60 w0 W g f0 f1) (ho : d.Q e W base ok v xs) (ht : e ≠ 60) : some g ≠ v.ownBlock := by
  obtain ⟨hb, hg⟩ := h
  exact Kd.Q_ne ho hb ht
theorem IsS60.apartS {w0 W : World} {g : Nat} {f0 : ByteArray} {f1 : Int} {α : Type} {d : Kd α} {e : Nat} {base : Nat} {ok : Nat → Prop} {v : Value} {xs : List α} (h : IsS60 w0 W g f0 f1) (ho : d.S e W base ok v xs) (ht : ∀ q, q ∈ e :: d.E → q ≠ 60) : d.S e W base (fun k => ok k ∧ k ≠ g) v xs := by
  obtain ⟨hb, hg⟩ := h
  exact Kd.S_types ho hb ht
theorem IsS60.own_neS {w0 W : World} {g : Nat} {f0 : ByteArray} {f1 : Int} {α : Type} {d : Kd α} {e : Nat} {base : Nat} {ok : Nat → Prop} {v : Value} {xs : List α} (h : IsS60 w0 W g f0 f1) (ho : d.S e W base ok v xs) (ht : e ≠ 60) : some g ≠ v.ownBlock := by
  obtain ⟨hb, hg⟩ := h
  exact Kd.S_ne ho hb ht
theorem IsS60.lt {w0 W : World} {g : Nat} {f0 : ByteArray} {f1 : Int} (h : IsS60 w0 W g f0 f1) : g < W.heap.size := by
  obtain ⟨hb, hg⟩ := h
  exact blk_lt hb
theorem IsS60.ge {w0 W : World} {g : Nat} {f0 : ByteArray} {f1 : Int} (h : IsS60 w0 W g f0 f1) : w0.heap.size ≤ g := by
  obtain ⟨hb, hg⟩ := h
  exact hg
theorem IsS60.ne_blk {w0 W : World} {g : Nat} {f0 : ByteArray} {f1 : Int} {a : Nat} {cs : Array Value} {t : TypeId} {fr : Nat × Nat} (h : IsS60 w0 W g f0 f1) (hb2 : W.heap[a]? = some (.cells cs t fr)) (ht : t ≠ 60) : g ≠ a := by
  obtain ⟨hb, hg⟩ := h
  rintro rfl
  rw [hb] at hb2
  injection hb2 with hb2
  injection hb2 with _ ht2
  exact ht ht2.symm
theorem IsS60.far {w0 W : World} {g : Nat} {f0 : ByteArray} {f1 : Int} {p : Addr} (h : IsS60 w0 W g f0 f1) (hne : g ≠ p.block) (u : Value) : IsS60 w0 (W.setCell p u) g f0 f1 := by
  obtain ⟨hb, hg⟩ := h
  exact ⟨blk_far hb hne u, hg⟩
theorem cellS60_0 {W : World} {g : Nat} {f0 : ByteArray} {f1 : Int} (h : W.heap[g]? = some (.cells #[.string f0, .int .i64 f1] 60 (0, 0))) : W.cell? ⟨g, 0, none⟩ = some (.string f0) := (blk_cell h 0).trans rfl
theorem IsS60.set_0 {w0 W : World} {g : Nat} {f0 : ByteArray} {f1 : Int} (h : IsS60 w0 W g f0 f1) (x : ByteArray) : IsS60 w0 (W.setCell ⟨g, 0, none⟩ (.string x)) g x f1 := by
  obtain ⟨hb, hg⟩ := h
  exact ⟨by simpa using blk_set hb 0 (.string x), hg⟩
theorem cellS60_1 {W : World} {g : Nat} {f0 : ByteArray} {f1 : Int} (h : W.heap[g]? = some (.cells #[.string f0, .int .i64 f1] 60 (0, 0))) : W.cell? ⟨g, 1, none⟩ = some (.int .i64 f1) := (blk_cell h 1).trans rfl
theorem IsS60.set_1 {w0 W : World} {g : Nat} {f0 : ByteArray} {f1 : Int} (h : IsS60 w0 W g f0 f1) (x : Int) : IsS60 w0 (W.setCell ⟨g, 1, none⟩ (.int .i64 x)) g f0 x := by
  obtain ⟨hb, hg⟩ := h
  exact ⟨by simpa using blk_set hb 1 (.int .i64 x), hg⟩
theorem IsS60.new (w0 W : World) (f0 : ByteArray) (f1 : Int) (hB : Below w0.heap.size w0 W) : IsS60 w0 (W.alloc (.cells #[.string f0, .int .i64 f1] 60)) W.heap.size f0 f1 := ⟨by simpa using heap_alloc_new W _, hB.size⟩

/-! ### disc_reader_take: function 36 -/
def disc_reader_take.f (s0_0 : ByteArray) (s0_1 : Int) : Option (Int × Bool × ByteArray × Int) := (sum16_Take.f s0_0 s0_1).bind fun bt134 => (if bt134.2 = 0 then (some (bt134.1, true, s0_0, wrap64 (s0_1 + 2))) else (some (0, false, s0_0, (s0_0.size : Int))))
set_option maxHeartbeats 8000000 in
set_option maxRecDepth 100000 in
theorem disc_reader_take.calls (g : Nat) (s0_0 : ByteArray) (s0_1 : Int) (r1 : Int) (r2 : Bool) (r3 : ByteArray) (r4 : Int) (w0 w : World) (hI : IsS60 w0 w g s0_0 s0_1) (hB : Below w0.heap.size w0 w) (h : disc_reader_take.f s0_0 s0_1 = some (r1, r2, r3, r4)) :
    Calls Try.prog 36 #[.pointer (some ⟨g, 0, none⟩)] w fun e w' => e = .returned (.tuple #[.int .i64 r1, .bool r2]) ∧ IsS60 w0 w' g r3 r4 ∧ Below w0.heap.size w0 w' ∧ KeepBut w w' g none := by
  have HI0 := Aside0.mk hI
  have HK := Aside0.mk (KeepBut.refl w g none)
  have HL := Aside0.mk hB.size
  clear hI
  have HW0 := Aside0.mk hB.size
  have HB := Aside0.mk hB
  clear hB
  have H : ((sum16_Take.f s0_0 s0_1).bind fun bt134 => (if bt134.2 = 0 then (some (bt134.1, true, s0_0, wrap64 (s0_1 + 2))) else (some (0, false, s0_0, (s0_0.size : Int))))) = some (r1, r2, r3, r4) := h
  clear h
  replace H := Option.bind_eq_some_iff.mp H
  obtain ⟨⟨t134, t135⟩, A20, H⟩ := H
  replace H : (if t135 = 0 then (some (t134, true, s0_0, wrap64 (s0_1 + 2))) else (some (0, false, s0_0, (s0_0.size : Int)))) = some (r1, r2, r3, r4) := H
  have A2 := Aside0.mk A20
  clear A20
  by_cases c3 : t135 = 0
  · rw [if_pos c3] at H
    have c3b0 : (t135 == 0) = true := beq_iff_eq.mpr c3
    have c3b1 : (t135 != 0) = false := bne_eq_false_iff_eq.mpr c3
    clear c3
    simp only [Option.some.injEq, Prod.mk.injEq] at H
    obtain ⟨rfl, rfl, rfl, rfl⟩ := H
    obtain ⟨HGz4, hgz4⟩ := HI0.out
    have hcz4_0 := cellS60_0 HGz4
    have hcz4_1 := cellS60_1 HGz4
    have hfz4_0 := blk_frozen HGz4 0
    have hfz4_1 := blk_frozen HGz4 1
    clear HGz4 hgz4
    go_enter Try.func36, Try.ntmps36
    go_wp2_with (first | (go_at_call 41; (with_reducible refine (sum16_Take.calls s0_0 s0_1 t134 t135 _ A2.out).mono ?_); rintro e w' ⟨rfl, ⟨nd, rfl⟩⟩; (try first | exact ⟨rfl, _, World.drewN_drewN _ _ _⟩ | exact ⟨rfl, _, Eq.trans (World.drewN_drewN _ _ _) (congrArg (World.drewN _) (Nat.add_assoc _ _ _))⟩)))
    repeat (go_quiet (first | (go_at_call 41; (with_reducible refine (sum16_Take.calls s0_0 s0_1 t134 t135 _ A2.out).mono ?_); rintro e w' ⟨rfl, ⟨nd, rfl⟩⟩; (try first | exact ⟨rfl, _, World.drewN_drewN _ _ _⟩ | exact ⟨rfl, _, Eq.trans (World.drewN_drewN _ _ _) (congrArg (World.drewN _) (Nat.add_assoc _ _ _))⟩))); try go_wp2_with (first | (go_at_call 41; (with_reducible refine (sum16_Take.calls s0_0 s0_1 t134 t135 _ A2.out).mono ?_); rintro e w' ⟨rfl, ⟨nd, rfl⟩⟩; (try first | exact ⟨rfl, _, World.drewN_drewN _ _ _⟩ | exact ⟨rfl, _, Eq.trans (World.drewN_drewN _ _ _) (congrArg (World.drewN _) (Nat.add_assoc _ _ _))⟩))))
    go_ret2
    exact ⟨by first | rfl | (simp [errW_none, errW_some] <;> rfl) | (simp [*, errW_none, errW_some] <;> rfl), by repeat (first | (with_reducible first | exact HI0.out | apply IsS60.alloc | apply IsS60.drewN | apply IsS60.drew | apply IsS60.set_0 | apply IsS60.set_1) | exact HI0.out), by repeat (first | (with_reducible first | exact HB.out | apply below_alloc | apply pw_below_drewN | apply below_drew1 | refine below_set ?_ (IsS60.ge HI0.out)) | exact HB.out), by repeat (first | (with_reducible first | exact HK.out | apply KeepBut.set_ | apply keep_drewN | apply keep_drew | apply keep_alloc) | exact HK.out)⟩
  · rw [if_neg c3] at H
    have c3b0 : (t135 == 0) = false := beq_eq_false_iff_ne.mpr c3
    have c3b1 : (t135 != 0) = true := bne_iff_ne.mpr c3
    simp only [Option.some.injEq, Prod.mk.injEq] at H
    obtain ⟨rfl, rfl, rfl, rfl⟩ := H
    obtain ⟨HGz5, hgz5⟩ := HI0.out
    have hcz5_0 := cellS60_0 HGz5
    have hcz5_1 := cellS60_1 HGz5
    have hfz5_0 := blk_frozen HGz5 0
    have hfz5_1 := blk_frozen HGz5 1
    clear HGz5 hgz5
    go_enter Try.func36, Try.ntmps36
    go_wp2_with (first | (go_at_call 41; (with_reducible refine (sum16_Take.calls s0_0 s0_1 t134 t135 _ A2.out).mono ?_); rintro e w' ⟨rfl, ⟨nd, rfl⟩⟩; (try first | exact ⟨rfl, _, World.drewN_drewN _ _ _⟩ | exact ⟨rfl, _, Eq.trans (World.drewN_drewN _ _ _) (congrArg (World.drewN _) (Nat.add_assoc _ _ _))⟩)))
    repeat (go_quiet (first | (go_at_call 41; (with_reducible refine (sum16_Take.calls s0_0 s0_1 t134 t135 _ A2.out).mono ?_); rintro e w' ⟨rfl, ⟨nd, rfl⟩⟩; (try first | exact ⟨rfl, _, World.drewN_drewN _ _ _⟩ | exact ⟨rfl, _, Eq.trans (World.drewN_drewN _ _ _) (congrArg (World.drewN _) (Nat.add_assoc _ _ _))⟩))); try go_wp2_with (first | (go_at_call 41; (with_reducible refine (sum16_Take.calls s0_0 s0_1 t134 t135 _ A2.out).mono ?_); rintro e w' ⟨rfl, ⟨nd, rfl⟩⟩; (try first | exact ⟨rfl, _, World.drewN_drewN _ _ _⟩ | exact ⟨rfl, _, Eq.trans (World.drewN_drewN _ _ _) (congrArg (World.drewN _) (Nat.add_assoc _ _ _))⟩))))
    go_ret2
    exact ⟨by first | rfl | (simp [errW_none, errW_some] <;> rfl) | (simp [*, errW_none, errW_some] <;> rfl), by repeat (first | (with_reducible first | exact HI0.out | apply IsS60.alloc | apply IsS60.drewN | apply IsS60.drew | apply IsS60.set_0 | apply IsS60.set_1) | exact HI0.out), by repeat (first | (with_reducible first | exact HB.out | apply below_alloc | apply pw_below_drewN | apply below_drew1 | refine below_set ?_ (IsS60.ge HI0.out)) | exact HB.out), by repeat (first | (with_reducible first | exact HK.out | apply KeepBut.set_ | apply keep_drewN | apply keep_drew | apply keep_alloc) | exact HK.out)⟩

-- NOT PRINTED: function 27 (disc_reader_begin)

/-! ### disc_Decode: function 12 (typed by hand) -/
open Go.Proofs.Ytjpnfhnmcgejhaa.Dc1 Go.Proofs.Ytjpnfhnmcgejhaa.Dc2 Go.Proofs.Ytjpnfhnmcgejhaa.Dc3 Go.Proofs.Ytjpnfhnmcgejhaa.Dc4 Go.Proofs.Ytjpnfhnmcgejhaa.Dd1 Go.Proofs.Ytjpnfhnmcgejhaa.Dd2 Go.Proofs.Ytjpnfhnmcgejhaa.Dd3 Go.Proofs.Ytjpnfhnmcgejhaa.Dd4
def disc_Decode.tup (x : S48) : It := (x.f0, x.f1, x.f2)
theorem disc_Decode.below_sr {B : Nat} {w0 w : World} {g : Nat} (hB : Below B w0 w) (hg : B ≤ g) (cs : Array Value) : Below B w0 (w.setRow g cs) :=
  ⟨hB.os, hB.tape, hB.output, by simpa [World.setRow] using hB.size, fun i hi => (setRow_other _ _ _ _ (by omega)).trans (hB.block i hi)⟩
def disc_Decode.back (x : It) : S48 := ⟨x.1, x.2.1, x.2.2⟩
theorem disc_Decode.tup_back (l : List It) : (l.map disc_Decode.back).map disc_Decode.tup = l := by
  rw [List.map_map]
  exact (List.map_congr_left (fun x _ => rfl)).trans (List.map_id l)
theorem disc_Decode.R_back {e : Nat} {w : World} {base : Nat} {ok : Nat → Prop} {v : Value} {l : List It} (h : Kd.R kdi e w base ok v l) : Kd.R k48 e w base ok v (l.map disc_Decode.back) := by
  obtain ⟨h0, inner, ho, hr⟩ := h
  refine ⟨h0, inner, by rw [List.length_map]; exact ho, by rw [List.length_map]; exact hr.1, fun j p hj => ?_⟩
  rw [List.getElem?_map] at hj
  obtain ⟨q, hq, rfl⟩ := Option.map_eq_some_iff.1 hj
  exact hr.2 j q hq
def disc_Decode.f (k : Nat) (a0 : ByteArray) : Option (List S48 × Int × Int) := (sum16_Open.f k a0).bind fun o => if o.2 = 0 then (if o.1.size ≤ 1000000 then (match decP o.1 with
  | none => some (([] : List S48), (decE o.1).1, (decE o.1).2)
  | some L => (record_Normal.f k (L.map disc_Decode.back)).bind fun r => some (r.1, 0, r.2)) else none) else if o.2 = 8 then some (([] : List S48), (a0.size : Int), o.2) else some (([] : List S48), wrap64 ((a0.size : Int) - 2), o.2)
theorem disc_Decode.mono : ∀ a0 k, LeO (disc_Decode.f k a0) (disc_Decode.f (k + 1) a0) := by
  intro a0 k
  unfold disc_Decode.f
  refine LeO.bind (sum16_Open.mono _ _) (fun o => LeO.ite (LeO.ite ?_ (LeO.refl _)) (LeO.refl _))
  cases decP o.1 with
  | none => exact LeO.refl _
  | some L => exact LeO.bind (record_Normal.mono _ _) (fun _ => LeO.refl _)
def disc_Decode.Post (w : World) (r1 : List S48) (r2 r3 : Int) (e : Ending) (w' : World) : Prop := ∃ v0_ : Value, e = .returned (.tuple #[v0_, .int .i64 r2, .int .i64 r3]) ∧ Kd.R k48 48 w' w.heap.size (fun _ => True) v0_ r1 ∧ Below w.heap.size w w'
def disc_Decode.PostL (w : World) (E : Int × Int) (rr : List S48 × Int) : Option (List It) → Ending → World → Prop
  | none, e, w' => disc_Decode.Post w [] E.1 E.2 e w'
  | some _, e, w' => disc_Decode.Post w rr.1 0 rr.2 e w'
theorem disc_Decode.nilP {w w' : World} {r2 r3 : Int} (hb : Below w.heap.size w w') : disc_Decode.Post w [] r2 r3 (.returned (.tuple #[.slice none 0 0, .int .i64 r2, .int .i64 r3])) w' := ⟨_, rfl, Kd.R_nil _ _ _ _ _, hb⟩

set_option maxHeartbeats 8000000 in
set_option maxRecDepth 100000 in
theorem disc_Decode.dec_8 (k : Nat) (s ob : ByteArray) (hop : sum16_Open.f k s = some (ob, 8)) (w : World) : Calls Try.prog 12 #[.string s] w fun e w' => disc_Decode.Post w [] (s.size : Int) 8 e w' := by
  have HOP := Aside0.mk hop
  clear hop
  go_enter Try.func12, Try.ntmps12
  go_wp2_with ((go_at_call 26; (with_reducible refine (sum16_Open.calls k s ob 8 _ HOP.out).mono ?_); rintro e_ wv ⟨rfl, hb⟩; have HB := Aside0.mk hb; clear hb))
  go_ret3
  exact disc_Decode.nilP HB.out
set_option maxHeartbeats 8000000 in
set_option maxRecDepth 100000 in
theorem disc_Decode.dec_o (k : Nat) (s ob : ByteArray) (oe : Int) (hop : sum16_Open.f k s = some (ob, oe)) (he : oe ≠ 0) (h8 : oe ≠ 8) (w : World) : Calls Try.prog 12 #[.string s] w fun e w' => disc_Decode.Post w [] (wrap64 ((s.size : Int) - 2)) oe e w' := by
  have HOP := Aside0.mk hop
  have e1 : (oe == 0) = false := beq_eq_false_iff_ne.mpr he
  have e2 : (oe == 8) = false := beq_eq_false_iff_ne.mpr h8
  clear hop he h8
  go_enter Try.func12, Try.ntmps12
  go_wp2_with ((go_at_call 26; (with_reducible refine (sum16_Open.calls k s ob oe _ HOP.out).mono ?_); rintro e_ wv ⟨rfl, hb⟩; have HB := Aside0.mk hb; clear hb))
  go_ret3
  exact disc_Decode.nilP HB.out

set_option maxHeartbeats 8000000 in
set_option maxRecDepth 100000 in
theorem disc_Decode.dec_b (k : Nat) (s ob : ByteArray) (hop : sum16_Open.f k s = some (ob, 0)) (hos : ob.size ≤ 1000000) (hb : beginP ob = none) (w : World) : Calls Try.prog 12 #[.string s] w fun e w' => disc_Decode.Post w [] (beginE ob).1 (beginE ob).2 e w' := by
  have HOP := Aside0.mk hop
  have HOS := Aside0.mk hos
  have HBG := Aside0.mk hb
  clear hop hos hb
  go_enter Try.func12, Try.ntmps12
  go_wp2_with (first | (go_at_call 26; (with_reducible refine (sum16_Open.calls k s ob 0 _ HOP.out).mono ?_); rintro e_ wv ⟨rfl, hb⟩; have HB := Aside0.mk hb; clear hb) | ((with_reducible refine gate_dst (N := 35) rfl ?_); refine box_event ?hg (N := 35) ?hd (cs := #[.string ob, .int .i64 0]) (t := 60) ?hr ?_; (case hd => rfl); (case hg => rfl); (case hr => first | (go_simp; done) | (go_simp; rfl)); intro g hg_ wv hbox hb; have HR := Aside0.mk (show IsRd wv g ob 0 from hbox); have GW := Aside0.mk (show w.heap.size ≤ g by rw [hg_]; exact below_size HB.out); replace HB := Aside0.mk (below_step HB.out hb); clear hbox hg_ hb) | (go_at_call 27; (with_reducible refine (begin_ g ob (by have := HOS.out; omega) _ HR.out).mono ?_); rintro e_ wv hp; obtain ⟨q2, rfl, he, hq2, hr, hk⟩ := hp.2 HBG.out; have e9 : ((beginE ob).2 != 0) = true := bne_iff_ne.mpr he; replace HR := Aside0.mk hr; replace HB := Aside0.mk (WK.base HB.out hk GW.out); clear hr hk hp he hq2) | ((with_reducible refine gate_dst (N := 8) rfl ?_); refine box_event ?hg (N := 8) ?hd (cs := #[.int .i64 0, .int .i64 0]) (t := 62) ?hr ?_; (case hd => rfl); (case hg => rfl); (case hr => first | (go_simp; done) | (go_simp; rfl)); intro g8 hg_ wv hbox hb; have B8 := Aside0.mk hbox; have N8 := Aside0.mk (show g8 ≠ g by have := blk_lt HR.out; omega); have G8 := Aside0.mk (show w.heap.size ≤ g8 by rw [hg_]; exact below_size HB.out); replace HR := Aside0.mk (show IsRd wv g ob _ from blk_below HR.out hb); replace HB := Aside0.mk (below_step HB.out hb); clear hbox hg_ hb) | ((with_reducible refine gate_store (t := 62) (p := 8) rfl ?_); refine wpList_store_row rfl 62 _ _ rfl g8 #[.int .i64 0, .int .i64 0] rfl rfl 62 #[.int .i64 0, .int .i64 0] B8.out (by kernel_rfl) rfl (by simp [Value.oneCell']) ?_; replace HR := Aside0.mk (show IsRd (wv.setRow g8 #[.int .i64 0, .int .i64 0]) g ob _ from (setRow_other _ _ _ _ (fun e => N8.out e.symm)).trans HR.out); replace HB := Aside0.mk (disc_Decode.below_sr HB.out G8.out #[.int .i64 0, .int .i64 0]); replace B8 := Aside0.mk (setRow_heap _ _ _ #[.int .i64 0, .int .i64 0] _ _ B8.out); generalize wv.setRow g8 #[.int .i64 0, .int .i64 0] = wv at HR HB B8 ⊢))
  go_ret3
  exact disc_Decode.nilP HB.out

theorem disc_Decode.normc (k : Nat) (A0 : Option Addr) (n c0 : Nat) (l0 : List S48) (hn : n = l0.length) (r1 : List S48) (r2 : Int) (w : World) (hr0 : Kd.C k48 w A0 l0.length l0) (hc0 : l0.length ≤ c0) (h : record_Normal.f k l0 = some (r1, r2)) : Calls Try.prog 15 #[.slice A0 n c0] w fun e w' => ∃ v0_ : Value, e = .returned (.tuple #[v0_, .int .i64 r2]) ∧ Kd.R k48 48 w' w.heap.size (fun _ => True) v0_ r1 ∧ Below w.heap.size w w' := by
  subst hn
  exact record_Normal.calls k A0 c0 l0 r1 r2 w hr0 hc0 h
theorem disc_Decode.dayc (g : Nat) (s : ByteArray) (q : Nat) (hs : s.size ≤ 1000000000) (hq : q ≤ 1000000000) (sf st : Int) (hsf : 0 ≤ sf ∧ sf ≤ 40320) (w : World) (hR : IsRd w g s q) : Calls Try.prog 28 #[.pointer (some ⟨g, 0, none⟩), .agg #[.int .i64 sf, .int .i64 st]] w fun e w' => PostD g s w (dayP s q sf st) (dayE s q sf st) e w' := by
  cases h : num s q with
  | none =>
    have hn : dayP s q sf st = none := by unfold dayP; rw [h]; rfl
    have he : dayE s q sf st = (8, s.size) := by unfold dayE; rw [h]
    rw [hn, he]
    refine (day_n g s q hs hq sf st h w hR).mono ?_
    rintro e w' ⟨rfl, h1, h2⟩
    exact ⟨fun l q2 h => (by cases h), fun _ => ⟨rfl, by show (8 : Int) ≠ 0; decide, h1, h2⟩⟩
  | some n =>
    by_cases h0 : n = 0
    · subst h0
      have hn : dayP s q sf st = none := by unfold dayP; rw [h]; rfl
      have he : dayE s q sf st = (7, q) := by unfold dayE; rw [h]; rfl
      rw [hn, he]
      refine (day_z g s q hs hq sf st h w hR).mono ?_
      rintro e w' ⟨rfl, h1, h2⟩
      exact ⟨fun l q2 h => (by cases h), fun _ => ⟨rfl, by show (7 : Int) ≠ 0; decide, h1, h2⟩⟩
    · exact day_ g s q hs hq sf st hsf n h h0 _ (by unfold dayP; rw [h, Option.bind_some, if_neg h0]) _ (by unfold dayE; rw [h]; simp only; rw [if_neg h0]) w hR
theorem disc_Decode.appRD {ops : Array Oper} {rest : List Oper} {o : Oper} {a : Act} {Q : Exit → Act → World → Prop} {W : World} (base : Nat) (hgd : o.guard = none) (s x : Operand) (ho : o.op = .call { callee := .builtin .append, args := #[s, x], argTypes := #[29, 29] }) (v : Value) (xs ys : List It) (A : Option Addr) (m c : Nat) (hs : a.eval s = v) (hx : a.eval x = .slice A m c)
    (HO : Kd.R kdi 48 W base (fun _ => True) v xs) (HR : Kd.C kdi W A m ys) (hbase : base ≤ W.heap.size) (hl : xs.length + m ≤ 10000000)
    (h : ∀ v1 w1, Kd.R kdi 48 w1 base (fun _ => True) v1 (xs ++ ys) → W.grownBy w1 v.ownBlock → wpList Try.prog ops Q rest (a.put o.dst v1) w1) :
    wpList Try.prog ops Q (o :: rest) a W :=
  Kd.R_append_rows kdi (w0 := W) base hgd s x 29 48 (.agg #[(.int .i64 0), (.int .i64 0), (.int .i64 0)]) 24 ho und29 info48 rfl (by decide) (by omega) v xs ys A m c (fun _ => True) (fun _ => False) hs hx HO HR (fun x cs h => by obtain ⟨_, _, rfl, rfl, ⟨_, _, rfl, rfl, rfl⟩⟩ := h; exact ⟨[.int .i64 x.1], [.int .i64 x.2.1, .int .i64 x.2.2], rfl, rfl, ⟨[.int .i64 x.2.1], [.int .i64 x.2.2], rfl, rfl, rfl⟩⟩) (fun _ hk => hk.elim) (fun _ _ => trivial) (Below.mk rfl rfl rfl (Nat.le_refl _) (fun _ _ => rfl)) hbase (by omega) (fun v1 w1 h1 _ h3 h4 => h v1 w1 h1 h3)
theorem disc_Decode.R_base_wk {w0 w w1 : World} {g : Nat} {v : Value} {xs : List It} (h : Kd.R kdi 48 w w0.heap.size (fun _ => True) v xs) (hk : WK w w1 g) (hg : w0.heap.size ≤ g) (hne : ∀ k, v.ownBlock = some k → k ≠ g) : Kd.R kdi 48 w1 w0.heap.size (fun _ => True) v xs :=
  Kd.R_mono (Kd.R_step (R_notD h hne) (fun k hk1 hlt => hk.block k hlt hk1)) (fun _ _ => trivial)
set_option maxHeartbeats 8000000 in
set_option maxRecDepth 100000 in
theorem disc_Decode.dec_l (k : Nat) (s ob : ByteArray) (hop : sum16_Open.f k s = some (ob, 0)) (hos : ob.size ≤ 1000000) (cf cu : Int) (hbg : beginP ob = some (cf, cu)) (E : Int × Int) (hE : daysE ob 30 6 cf cu = E) (rr : List S48 × Int) (hN : ∀ L, decP ob = some L → record_Normal.f k (L.map disc_Decode.back) = some rr) (w : World) : Calls Try.prog 12 #[.string s] w fun e w' => disc_Decode.PostL w E rr (decP ob) e w' := by
  have hrng := beginP_rng hbg
  obtain ⟨D, hD⟩ : ∃ D, decP ob = D := ⟨_, rfl⟩
  rw [hD]
  have hdp : (daysP ob 30 6 cf cu []).bind (fun x => if x.2 < ob.size then none else some x.1) = D := by
    rw [← hD]
    unfold decP
    rw [hbg, Option.bind_some]
  obtain ⟨PP, hPP⟩ : ∃ PP : Ending → World → Prop, PP = fun e w' => disc_Decode.PostL w E rr D e w' := ⟨_, rfl⟩
  have HPP := Aside0.mk (show ∀ e w', disc_Decode.PostL w E rr D e w' → PP e w' from fun e w' h => by rw [hPP]; exact h)
  refine Calls.mono (?_ : Calls Try.prog 12 #[.string s] w PP) (fun e w' h => by rw [hPP] at h; exact h)
  clear hPP
  rw [hD] at hN
  have HNRM := Aside0.mk hN
  have HOP := Aside0.mk hop
  have HOS := Aside0.mk hos
  have HBG := Aside0.mk hbg
  have HRG := Aside0.mk hrng
  have HDD := Aside0.mk hdp
  have HEE := Aside0.mk (show D = none → daysE ob 30 6 cf cu = E from fun _ => hE)
  clear hop hos hbg hN hrng hdp hD hE
  go_enter Try.func12, Try.ntmps12
  go_wp2_with (first | (go_at_call 26; (with_reducible refine (sum16_Open.calls k s ob 0 _ HOP.out).mono ?_); rintro e_ wv ⟨rfl, hb⟩; have HB := Aside0.mk hb; clear hb) | ((with_reducible refine gate_dst (N := 35) rfl ?_); refine box_event ?hg (N := 35) ?hd (cs := #[.string ob, .int .i64 0]) (t := 60) ?hr ?_; (case hd => rfl); (case hg => rfl); (case hr => first | (go_simp; done) | (go_simp; rfl)); intro g hg_ wv hbox hb; have HR := Aside0.mk (show IsRd wv g ob 0 from hbox); have GW := Aside0.mk (show w.heap.size ≤ g by rw [hg_]; exact below_size HB.out); replace HB := Aside0.mk (below_step HB.out hb); clear hbox hg_ hb) | (go_at_call 27; (with_reducible refine (begin_ g ob (by have := HOS.out; omega) _ HR.out).mono ?_); rintro e_ wv hp; obtain ⟨rfl, hr, hk⟩ := hp.1 _ _ HBG.out; replace HR := Aside0.mk hr; replace HB := Aside0.mk (WK.base HB.out hk GW.out); clear hr hk hp) | ((with_reducible refine gate_dst (N := 8) rfl ?_); refine box_event ?hg (N := 8) ?hd (cs := #[.int .i64 0, .int .i64 0]) (t := 62) ?hr ?_; (case hd => rfl); (case hg => rfl); (case hr => first | (go_simp; done) | (go_simp; rfl)); intro g8 hg_ wv hbox hb; have B8 := Aside0.mk hbox; have N8 := Aside0.mk (show g8 ≠ g by have := blk_lt HR.out; omega); have G8 := Aside0.mk (show w.heap.size ≤ g8 by rw [hg_]; exact below_size HB.out); replace HR := Aside0.mk (show IsRd wv g ob _ from blk_below HR.out hb); replace HB := Aside0.mk (below_step HB.out hb); clear hbox hg_ hb) | ((with_reducible refine gate_store (t := 62) (p := 8) rfl ?_); refine wpList_store_row rfl 62 _ _ rfl g8 #[.int .i64 cf, .int .i64 cu] rfl rfl 62 #[.int .i64 0, .int .i64 0] B8.out (by kernel_rfl) rfl (by simp [Value.oneCell']) ?_; replace HR := Aside0.mk (show IsRd (wv.setRow g8 #[.int .i64 cf, .int .i64 cu]) g ob _ from (setRow_other _ _ _ _ (fun e => N8.out e.symm)).trans HR.out); replace HB := Aside0.mk (disc_Decode.below_sr HB.out G8.out #[.int .i64 cf, .int .i64 cu]); replace B8 := Aside0.mk (setRow_heap _ _ _ #[.int .i64 cf, .int .i64 cu] _ _ B8.out); generalize wv.setRow g8 #[.int .i64 cf, .int .i64 cu] = wv at HR HB B8 ⊢; have h80 : wv.cell? ⟨g8, 0, none⟩ = some (.int .i64 cf) := (blk_cell B8.out 0).trans rfl; have h81 : wv.cell? ⟨g8, 1, none⟩ = some (.int .i64 cu) := (blk_cell B8.out 1).trans rfl))
  clear h80 h81
  go_loopg [10, 12] 30 (fun kq v10 v12 w' => ∃ (d q : Nat) (cur : Int) (out : List It), v12 = .int .i64 cur ∧ Aside0 (d ≤ kq) ∧ Aside0 (d ≤ 30 ∧ 1 ≤ d) ∧ Aside0 (cf ≤ cur ∧ cur ≤ 42000 ∧ cu + 1440 ≤ (cur / 1440 + d) * 1440) ∧ Aside0 ((daysP ob d q cur cu out).bind (fun x => if x.2 < ob.size then none else some x.1) = D) ∧ Aside0 (D = none → daysE ob d q cur cu = E) ∧ Aside0 (q ≤ ob.size) ∧ Aside0 (out.length ≤ 65535 * (30 - d)) ∧ Aside0 (IsRd w' g ob q) ∧ Aside0 (Below w.heap.size w w') ∧ Aside0 (w'.heap[g8]? = some (.cells #[.int .i64 cf, .int .i64 cu] 62 (0, 0))) ∧ Aside0 (∀ k, v10.ownBlock = some k → k ≠ g) ∧ Aside0 (Kd.R kdi 48 w' w.heap.size (fun _ => True) v10 out))
  case atStart => exact ⟨30, 6, cf, [], rfl, ⟨Nat.le_refl _⟩, ⟨by omega⟩, ⟨by have := HRG.out; omega⟩, HDD, HEE, ⟨by have := HRG.out; omega⟩, ⟨by simp⟩, HR, HB, B8, ⟨fun k hk => by simp [Value.ownBlock] at hk⟩, ⟨Kd.R_nil _ _ _ _ _⟩⟩
  case round =>
    clear HR HB B8 HDD HEE
    obtain ⟨d, q, cur, out, rfl, HKQ, HD30, HCR, HDD, HEE, HQ, HOL, HR, HB, B8, HGB, HO⟩ := hrel
    obtain ⟨wv, hwv⟩ : ∃ wv, wv = wr := ⟨_, rfl⟩
    rw [← hwv] at HR HB B8 HO ⊢
    clear hwv
    obtain ⟨A10, n10, c10, e10⟩ : ∃ A10 n10 c10, u10 = Value.slice A10 n10 c10 := by obtain ⟨A10, c10, e10⟩ := Kd.R_slice HO.out; exact ⟨A10, _, c10, e10⟩
    obtain rfl : n10 = out.length := by have h := HO.out; rw [e10] at h; exact (Kd.R_reads' h).1
    subst e10
    obtain ⟨d, rfl⟩ : ∃ q, d = q + 1 := ⟨d - 1, by have := HD30.out; omega⟩
    have hdd := HDD.out
    rw [daysP] at hdd
    have hee := HEE.out
    rw [daysE] at hee
    have h80 : wv.cell? ⟨g8, 0, none⟩ = some (.int .i64 cf) := (blk_cell B8.out 0).trans rfl
    have h81 : wv.cell? ⟨g8, 1, none⟩ = some (.int .i64 cu) := (blk_cell B8.out 1).trans rfl
    by_cases ci : cur < cu
    · rw [if_pos ci] at hdd hee
      have HCU := Aside0.mk (show 0 ≤ cur ∧ cur ≤ 40320 by have := HCR.out; have := HRG.out; omega)
      have HMW := Aside0.mk (show wrap64 (wrap64 (wrap64 (Int.tdiv cur 1440) + 1) * 1440) = (cur / 1440 + 1) * 1440 by
        have := HCU.out
        rw [Int.tdiv_eq_ediv_of_nonneg this.1]
        unfold wrap64
        omega)
      have hmw := HMW.out
      obtain ⟨nx, hnx⟩ : ∃ nx, (if (cur / 1440 + 1) * 1440 < cu then (cur / 1440 + 1) * 1440 else cu) = nx := ⟨_, rfl⟩
      rw [hnx] at hdd hee
      have c1 : (cur < cu) = True := eq_true ci
      cases hdy : dayP ob q cur nx with
      | none =>
        rw [hdy] at hdd hee
        have HDP := Aside0.mk hdy
        have HDN := Aside0.mk (show D = none from hdd.symm)
        have HEN := Aside0.mk (show (((dayE ob q cur nx).2 : Int), (dayE ob q cur nx).1) = E from hee hdd.symm)
        clear hdy hdd hee ci
        go_wp2_with (first | (go_at_call 28; (with_reducible refine (disc_Decode.dayc g ob q (by have := HOS.out; omega) (by have := HQ.out; have := HOS.out; omega) cur nx HCU.out _ HR.out).mono ?_); rintro e_ wv hp; obtain ⟨rfl, he, hr, hk⟩ := hp.2 HDP.out; have e9 : ((dayE ob q cur nx).1 != 0) = true := bne_iff_ne.mpr he; replace HR := Aside0.mk hr; replace HB := Aside0.mk (WK.base HB.out hk GW.out); clear hr hk hp he HO B8 h80 h81))
        refine start_ (n := 8) (S := fun w' => w'.cell? ⟨g, 1, none⟩ = some (.int .i64 ((dayE ob q cur nx).2 : Int))) (ds := []) #[false, false, false, false, false, false, false, false] (by kernel_rfl) rfl rfl ((blk_cell HR.out 1).trans rfl) (fun hHeld => ?_)
        replace HR := Aside0.mk (show IsRd wv.drew g ob _ from HR.out)
        replace HB := Aside0.mk (HB.out.drew)
        generalize wv.drew = wv at HR HB hHeld ⊢
        refine pure_ (i := 0) (N := some 74) (v := ?_) (a' := ?_) #[true, false, false, false, false, false, false, false] rfl rfl (by kernel_rfl) (fun _ _ _ h => h) (Or.inl ⟨by rfl, ?_⟩) ?_ ?_
        rotate_left
        · intro w'
          go_simp
          with_reducible rfl
        rotate_left
        · simp only [Act.put, List.setIfInBounds_toArray, List.set_cons_zero, List.set_cons_succ, i64_w, i32_w]
          rfl
        refine pure_ (i := 1) (N := some 75) (v := ?_) (a' := ?_) #[true, true, false, false, false, false, false, false] rfl rfl (by kernel_rfl) (fun _ _ _ h => h) (Or.inl ⟨by rfl, ?_⟩) ?_ ?_
        rotate_left
        · intro w'
          go_simp
          with_reducible rfl
        rotate_left
        · simp only [Act.put, List.setIfInBounds_toArray, List.set_cons_zero, List.set_cons_succ, i64_w, i32_w]
          rfl
        refine pure_ (i := 2) (N := some 76) (v := ?_) (a' := ?_) #[true, true, true, false, false, false, false, false] rfl rfl (by kernel_rfl) (fun _ _ _ h => h) (Or.inl ⟨by rfl, ?_⟩) ?_ ?_
        rotate_left
        · intro w'
          go_simp
          with_reducible rfl
        rotate_left
        · simp only [Act.put, List.setIfInBounds_toArray, List.set_cons_zero, List.set_cons_succ, i64_w, i32_w]
          rfl
        refine pure_ (i := 4) (N := some 78) (v := ?_) (a' := ?_) #[true, true, true, false, true, false, false, false] rfl rfl (by kernel_rfl) (fun _ _ _ h => h) (Or.inl ⟨by rfl, ?_⟩) ?_ ?_
        rotate_left
        · intro w'
          go_simp
          with_reducible rfl
        rotate_left
        · simp only [Act.put, List.setIfInBounds_toArray, List.set_cons_zero, List.set_cons_succ, i64_w, i32_w]
          rfl
        refine pure_ (i := 5) (N := some 2) (v := ?_) (a' := ?_) #[true, true, true, false, true, true, false, false] rfl rfl (by kernel_rfl) (fun _ _ _ h => h) (Or.inl ⟨by rfl, ?_⟩) ?_ ?_
        rotate_left
        · intro w'
          go_simp
          with_reducible rfl
        rotate_left
        · simp only [Act.put, List.setIfInBounds_toArray, List.set_cons_zero, List.set_cons_succ, i64_w, i32_w]
          rfl
        refine take_ (i := 3) (N := some 77) (v := ?_) (a' := ?_) #[true, true, true, true, true, true, false, false] rfl rfl (by kernel_rfl) (fun _ _ _ h => h) (Or.inl ⟨by rfl, ?_⟩) hHeld ?_ ?_
        rotate_left
        · intro w' s0
          go_simp
          with_reducible rfl
        rotate_left
        · simp only [Act.put, List.setIfInBounds_toArray, List.set_cons_zero, List.set_cons_succ, i64_w, i32_w]
          rfl
        refine pure_ (i := 6) (N := some 3) (v := ?_) (a' := ?_) #[true, true, true, true, true, true, true, false] rfl rfl (by kernel_rfl) (fun _ _ _ h => h) (Or.inl ⟨by rfl, ?_⟩) ?_ ?_
        rotate_left
        · intro w'
          go_simp
          with_reducible rfl
        rotate_left
        · simp only [Act.put, List.setIfInBounds_toArray, List.set_cons_zero, List.set_cons_succ, i64_w, i32_w]
          rfl
        refine pure_ (i := 7) (N := some 4) (v := ?_) (a' := ?_) #[true, true, true, true, true, true, true, true] rfl rfl (by kernel_rfl) (fun _ _ _ h => h) (Or.inl ⟨by rfl, ?_⟩) ?_ ?_
        rotate_left
        · intro w'
          go_simp
          with_reducible rfl
        rotate_left
        · simp only [Act.put, List.setIfInBounds_toArray, List.set_cons_zero, List.set_cons_succ, i64_w, i32_w]
          rfl
        refine done_ (by kernel_rfl) ?_
        (try go_wp2)
        go_ret3
        exact HPP.out _ _ (by rw [HDN.out, ← HEN.out]; exact disc_Decode.nilP HB.out)
      | some lq =>
        obtain ⟨l13, q2⟩ := lq
        rw [hdy, Option.bind_some] at hdd
        rw [hdy] at hee
        dsimp only at hdd hee
        have HEM := Aside0.mk hee
        have HDP := Aside0.mk hdy
        have HDR := Aside0.mk (dayP_rng hdy)
        have HLL := Aside0.mk (show l13.length ≤ 65535 from HDR.out.2)
        have HDM := Aside0.mk hdd
        have HCI := Aside0.mk ci
        clear hdy hdd hee ci
        go_wp2_with (first | (go_at_call 28; (with_reducible refine (disc_Decode.dayc g ob q (by have := HOS.out; omega) (by have := HQ.out; have := HOS.out; omega) cur nx HCU.out _ HR.out).mono ?_); rintro e_ wv hp; obtain ⟨v13, rfl, ho, hr, hk⟩ := hp.1 _ _ HDP.out; obtain ⟨A13, c13, e13⟩ := Kd.R_slice ho; subst e13; replace HO := Aside0.mk (disc_Decode.R_base_wk HO.out hk GW.out HGB.out); have H13 := Aside0.mk ho; replace HR := Aside0.mk hr; replace B8 := Aside0.mk (WK.blk hk B8.out N8.out); replace HB := Aside0.mk (WK.base HB.out hk GW.out); clear ho hr hk hp h80 h81) | ((with_reducible refine gate_builtin (b := .append) (xs := #[.tmp 79, .tmp 80]) rfl ?_); at_builtin; refine disc_Decode.appRD w.heap.size rfl (.tmp 79) (.tmp 80) rfl (.slice A10 out.length c10) out l13 A13 l13.length c13 rfl rfl HO.out (Kd.R_reads' H13.out).2.2 (below_size HB.out) (by have := HOL.out; have := HLL.out; omega) ?_; intro v1 w1 ho hg; replace HR := Aside0.mk (show IsRd w1 g ob _ from blk_row HR.out hg (fun e => Kd.R_ne HO.out HR.out (by decide) e.symm)); replace B8 := Aside0.mk (blk_row B8.out hg (fun e => Kd.R_ne HO.out B8.out (by decide) e.symm)); replace HB := Aside0.mk (HB.out.grown hg (below_size HB.out) (fun k e => Kd.R_base HO.out k e)); replace HO := Aside0.mk ho; clear ho hg H13))
        go_roundg d
        case measure => have := HKQ.out; omega
        case rel => exact ⟨d, q2, (cur / 1440 + 1) * 1440, out ++ l13, by first | rfl | rw [HMW.out], ⟨Nat.le_refl _⟩, ⟨by have := HD30.out; have := HCR.out; have := HCI.out; omega⟩, ⟨by have := HCR.out; have := HCU.out; omega⟩, HDM, HEM, ⟨HDR.out.1⟩, ⟨by have := HOL.out; have := HLL.out; have := HD30.out; rw [List.length_append]; omega⟩, HR, HB, B8, ⟨fun k e e2 => by subst e2; exact Kd.R_ne HO.out HR.out (by decide) e.symm⟩, HO⟩
    · rw [if_neg ci, Option.bind_some] at hdd
      rw [if_neg ci] at hee
      dsimp only at hdd
      have c1 : (cur < cu) = False := eq_false ci
      have hr1 : wv.cell? ⟨g, 1, none⟩ = some (.int .i64 (q : Int)) := (blk_cell HR.out 1).trans rfl
      by_cases cq : q < ob.size
      · rw [if_pos cq] at hdd
        have HDN := Aside0.mk (show D = none from hdd.symm)
        have HEN := Aside0.mk (show ((q : Int), 7) = E from hee hdd.symm)
        have c2 : ((q : Int) < (ob.size : Int)) = True := eq_true (by omega)
        have c3 : (q < ob.size) = True := eq_true cq
        clear hdd hee ci cq
        go_wp2
        refine start_ (n := 7) (S := fun w' => w'.cell? ⟨g, 1, none⟩ = some (.int .i64 (q : Int))) (ds := []) #[false, false, false, false, false, false, false] (by kernel_rfl) rfl rfl ((blk_cell HR.out 1).trans rfl) (fun hHeld => ?_)
        replace HR := Aside0.mk (show IsRd wv.drew g ob _ from HR.out)
        replace HB := Aside0.mk (HB.out.drew)
        generalize wv.drew = wv at HR HB hHeld ⊢
        refine pure_ (i := 0) (N := some 89) (v := ?_) (a' := ?_) #[true, false, false, false, false, false, false] rfl rfl (by kernel_rfl) (fun _ _ _ h => h) (Or.inl ⟨by rfl, ?_⟩) ?_ ?_
        rotate_left
        · intro w'
          go_simp
          with_reducible rfl
        rotate_left
        · simp only [Act.put, List.setIfInBounds_toArray, List.set_cons_zero, List.set_cons_succ, i64_w, i32_w]
          rfl
        refine pure_ (i := 1) (N := some 90) (v := ?_) (a' := ?_) #[true, true, false, false, false, false, false] rfl rfl (by kernel_rfl) (fun _ _ _ h => h) (Or.inl ⟨by rfl, ?_⟩) ?_ ?_
        rotate_left
        · intro w'
          go_simp
          with_reducible rfl
        rotate_left
        · simp only [Act.put, List.setIfInBounds_toArray, List.set_cons_zero, List.set_cons_succ, i64_w, i32_w]
          rfl
        refine pure_ (i := 2) (N := some 91) (v := ?_) (a' := ?_) #[true, true, true, false, false, false, false] rfl rfl (by kernel_rfl) (fun _ _ _ h => h) (Or.inl ⟨by rfl, ?_⟩) ?_ ?_
        rotate_left
        · intro w'
          go_simp
          with_reducible rfl
        rotate_left
        · simp only [Act.put, List.setIfInBounds_toArray, List.set_cons_zero, List.set_cons_succ, i64_w, i32_w]
          rfl
        refine pure_ (i := 4) (N := some 2) (v := ?_) (a' := ?_) #[true, true, true, false, true, false, false] rfl rfl (by kernel_rfl) (fun _ _ _ h => h) (Or.inl ⟨by rfl, ?_⟩) ?_ ?_
        rotate_left
        · intro w'
          go_simp
          with_reducible rfl
        rotate_left
        · simp only [Act.put, List.setIfInBounds_toArray, List.set_cons_zero, List.set_cons_succ, i64_w, i32_w]
          rfl
        refine take_ (i := 3) (N := some 92) (v := ?_) (a' := ?_) #[true, true, true, true, true, false, false] rfl rfl (by kernel_rfl) (fun _ _ _ h => h) (Or.inl ⟨by rfl, ?_⟩) hHeld ?_ ?_
        rotate_left
        · intro w' s0
          go_simp
          with_reducible rfl
        rotate_left
        · simp only [Act.put, List.setIfInBounds_toArray, List.set_cons_zero, List.set_cons_succ, i64_w, i32_w]
          rfl
        refine pure_ (i := 5) (N := some 3) (v := ?_) (a' := ?_) #[true, true, true, true, true, true, false] rfl rfl (by kernel_rfl) (fun _ _ _ h => h) (Or.inl ⟨by rfl, ?_⟩) ?_ ?_
        rotate_left
        · intro w'
          go_simp
          with_reducible rfl
        rotate_left
        · simp only [Act.put, List.setIfInBounds_toArray, List.set_cons_zero, List.set_cons_succ, i64_w, i32_w]
          rfl
        refine pure_ (i := 6) (N := some 4) (v := ?_) (a' := ?_) #[true, true, true, true, true, true, true] rfl rfl (by kernel_rfl) (fun _ _ _ h => h) (Or.inl ⟨by rfl, ?_⟩) ?_ ?_
        rotate_left
        · intro w'
          go_simp
          with_reducible rfl
        rotate_left
        · simp only [Act.put, List.setIfInBounds_toArray, List.set_cons_zero, List.set_cons_succ, i64_w, i32_w]
          rfl
        refine done_ (by kernel_rfl) ?_
        (try go_wp2)
        go_ret3
        exact HPP.out _ _ (by rw [HDN.out, ← HEN.out]; exact disc_Decode.nilP HB.out)
      · rw [if_neg cq] at hdd
        have HDN := Aside0.mk (show D = some out from hdd.symm)
        have c2 : ((q : Int) < (ob.size : Int)) = False := eq_false (by omega)
        have c3 : (q < ob.size) = False := eq_false cq
        have HNR := Aside0.mk (show record_Normal.f k (out.map disc_Decode.back) = some (rr.1, rr.2) from HNRM.out out HDN.out)
        have hrb := Kd.R_reads' (disc_Decode.R_back HO.out)
        have hlen : out.length = (out.map disc_Decode.back).length := by simp
        have HCB := Aside0.mk hrb.2.2
        have HCC := Aside0.mk (show (out.map disc_Decode.back).length ≤ c10 by rw [← hrb.1]; exact hrb.2.1)
        clear hdd hee ci cq hrb hlen
        go_wp2_with (first | (go_at_call 15; (with_reducible refine (disc_Decode.normc k A10 out.length c10 (out.map disc_Decode.back) (by simp) rr.1 rr.2 _ HCB.out HCC.out HNR.out).mono ?_); rintro e_ wv ⟨v0, rfl, ho, hb⟩; have H15 := Aside0.mk (Kd.R_lower ho (below_size HB.out)); replace HB := Aside0.mk (below_step HB.out hb); clear ho hb))
        go_ret3
        exact HPP.out _ _ (by rw [HDN.out]; exact ⟨_, rfl, H15.out, HB.out⟩)

theorem disc_Decode.calls (k : Nat) (a0 : ByteArray) (r1 : List S48) (r2 r3 : Int) (w : World) (h : disc_Decode.f k a0 = some (r1, r2, r3)) : Calls Try.prog 12 #[.string a0] w fun e w' => ∃ v0_ : Value, e = .returned (.tuple #[v0_, .int .i64 r2, .int .i64 r3]) ∧ Kd.R k48 48 w' w.heap.size (fun _ => True) v0_ r1 ∧ Below w.heap.size w w' := by
  unfold disc_Decode.f at h
  obtain ⟨⟨ob, oe⟩, hop, h⟩ := Option.bind_eq_some_iff.mp h
  dsimp only at h
  by_cases h0 : oe = 0
  · subst h0
    rw [if_pos rfl] at h
    by_cases hs : ob.size ≤ 1000000
    · rw [if_pos hs] at h
      cases hb : beginP ob with
      | none =>
        have hd : decP ob = none := by unfold decP; rw [hb]; rfl
        have he : decE ob = beginE ob := by unfold decE; rw [hb]
        rw [hd, he] at h
        simp only [Option.some.injEq, Prod.mk.injEq] at h
        obtain ⟨rfl, rfl, rfl⟩ := h
        exact disc_Decode.dec_b k a0 ob hop hs hb w
      | some ft =>
        obtain ⟨cf, cu⟩ := ft
        have he : decE ob = daysE ob 30 6 cf cu := by unfold decE; rw [hb]
        cases hd : decP ob with
        | none =>
          rw [hd, he] at h
          simp only [Option.some.injEq, Prod.mk.injEq] at h
          obtain ⟨rfl, rfl, rfl⟩ := h
          have := disc_Decode.dec_l k a0 ob hop hs cf cu hb _ rfl ([], 0) (fun L hL => by rw [hd] at hL; cases hL) w
          rw [hd] at this
          exact this
        | some L =>
          rw [hd] at h
          obtain ⟨r, hr, h⟩ := Option.bind_eq_some_iff.mp h
          simp only [Option.some.injEq, Prod.mk.injEq] at h
          obtain ⟨rfl, rfl, rfl⟩ := h
          have := disc_Decode.dec_l k a0 ob hop hs cf cu hb _ rfl r (fun L2 hL => by rw [hd] at hL; injection hL with hL; subst hL; exact hr) w
          rw [hd] at this
          exact this
    · rw [if_neg hs] at h
      cases h
  · rw [if_neg h0] at h
    by_cases h8 : oe = 8
    · subst h8
      rw [if_pos rfl] at h
      simp only [Option.some.injEq, Prod.mk.injEq] at h
      obtain ⟨rfl, rfl, rfl⟩ := h
      exact disc_Decode.dec_8 k a0 ob hop w
    · rw [if_neg h8] at h
      simp only [Option.some.injEq, Prod.mk.injEq] at h
      obtain ⟨rfl, rfl, rfl⟩ := h
      exact disc_Decode.dec_o k a0 ob oe hop h0 h8 w

end Go.Proofs.Ytjpnfhnmcgejhaa.MDiscBack
