/- The draws of a script, in memory: what draw.New, Left and Next do to a Draws, for every row of numbers, every place and every number asked. -/
import Derived.Test.YtabhikacghkcgaaInts
namespace Go.Proofs.Ytabhikacghkcgaa.Draw1
open Go.RowKit Go.Proofs.YtabhikacghkcgaaW.PrintWords Go.Proofs.YtabhikacghkcgaaW.PrintLast Go.Proofs.YtabhikacghkcgaaW.PrintMore Go.Proofs.Ytabhikacghkcgaa.Ints
attribute [local go_sem] max2_int min2_int max_two min_two max_three min_three max_four min_four
set_option linter.unusedVariables false
set_option linter.unusedSimpArgs false
/-- The Draws at block g: its row lies in a block from base on, below top. -/
def IsD (w : World) (base top g : Nat) (A : Option Addr) (c : Nat) (l : List Int) (at_ : Nat) : Prop :=
  at_ ≤ l.length ∧ base ≤ g ∧ g < w.heap.size ∧ RI w base (fun k => k ≠ g ∧ k < top) (.slice A l.length c) l ∧ w.heap[g]? = some (.cells #[.slice A l.length c, .int .i64 (at_ : Int)] 45 (0, 0))
theorem IsD.below {w w1 : World} {base top g : Nat} {A : Option Addr} {c : Nat} {l : List Int} {at_ : Nat} (h : IsD w base top g A c l at_) (hb : Below w.heap.size w w1) : IsD w1 base top g A c l at_ :=
  ⟨h.1, h.2.1, Nat.lt_of_lt_of_le h.2.2.1 hb.size, Kd.R_below h.2.2.2.1 hb, blk_below h.2.2.2.2 hb⟩
theorem IsD.drewN {w : World} {base top g : Nat} {A : Option Addr} {c : Nat} {l : List Int} {at_ : Nat} (h : IsD w base top g A c l at_) (n : Nat) : IsD (w.drewN n) base top g A c l at_ := h.below (pw_below_drewN (Below.refl _ _) n)
theorem IsD.drew {w : World} {base top g : Nat} {A : Option Addr} {c : Nat} {l : List Int} {at_ : Nat} (h : IsD w base top g A c l at_) : IsD w.drew base top g A c l at_ := h.below (below_drew (Below.refl _ _))
theorem IsD.grown {w w1 : World} {base top g : Nat} {A : Option Addr} {c : Nat} {l : List Int} {at_ : Nat} (h : IsD w base top g A c l at_) {row : Option Nat} (hg : w.grownBy w1 row) (hr : ∀ k, row = some k → top ≤ k ∧ k ≠ g) : IsD w1 base top g A c l at_ :=
  ⟨h.1, h.2.1, Nat.lt_of_lt_of_le h.2.2.1 hg.size, Kd.R_grown h.2.2.2.1 hg (fun k hk e => by have := hr k e.symm; omega), blk_grown h.2.2.2.2 hg (fun e => (hr g e.symm).2 rfl)⟩
theorem IsD.top {w : World} {base top top' g : Nat} {A : Option Addr} {c : Nat} {l : List Int} {at_ : Nat} (h : IsD w base top g A c l at_) (ht : top ≤ top') : IsD w base top' g A c l at_ :=
  ⟨h.1, h.2.1, h.2.2.1, Kd.R_mono h.2.2.2.1 (fun k hk => ⟨hk.1, Nat.lt_of_lt_of_le hk.2 ht⟩), h.2.2.2.2⟩
theorem grown_drewN (w : World) (n : Nat) (row : Option Nat) : w.grownBy (w.drewN n) row := ⟨rfl, rfl, rfl, Nat.le_refl _, fun _ _ _ => rfl⟩
theorem grown_cell (w : World) (g i : Nat) (u : Value) : w.grownBy (w.setCell ⟨g, i, none⟩ u) (some g) := grown_set w g i [u]
set_option maxHeartbeats 8000000 in
set_option maxRecDepth 100000 in
theorem new_ (A : Option Addr) (c : Nat) (l : List Int) (w : World) (hr : CI w A l) (hl : l.length < 1099511627776) :
    Calls Try.prog 6 #[.slice A l.length c] w fun e w' => ∃ g A' c', e = .returned (.pointer (some ⟨g, 0, none⟩)) ∧ IsD w' w.heap.size w'.heap.size g A' c' l 0 ∧ Below w.heap.size w w' := by
  have HR := Aside0.mk hr
  have HL := Aside0.mk hl
  have HB := Aside0.mk (Below.refl w.heap.size w)
  clear hr hl
  go_enter Try.func6, Try.ntmps6
  go_wp2_with (first | (go_at_call 15; with_reducible refine (clone A c l _ (Kd.C_below HR.out HB.out) HL.out).mono ?_; rintro e wv ⟨v0, rfl, ho, hb⟩; obtain ⟨A1, c1, hv⟩ := Kd.R_slice ho; subst hv; have HO := Aside0.mk ho; replace HB := Aside0.mk (below_step HB.out hb); clear ho hb) | ((with_reducible refine gate_dst (N := 6) rfl ?_); refine box_event ?hg (N := 6) ?hd (cs := #[.slice A1 l.length c1, .int .i64 0]) (t := 45) ?hr ?_; (case hd => rfl); (case hg => rfl); (case hr => first | (go_simp; done) | (go_simp; rfl)); intro gb hg_ wv hbox hb; have BB := Aside0.mk hbox; have HO2 := Aside0.mk (Kd.R_below HO.out hb); have HS := Aside0.mk (show w.heap.size ≤ gb by rw [hg_]; exact below_size HB.out); replace HB := Aside0.mk (below_step HB.out hb); clear hb hbox hg_ HO))
  go_ret
  refine ⟨_, _, _, rfl, ⟨Nat.zero_le _, HS.out, blk_lt BB.out, Kd.R_mono (Kd.R_bound HO2.out) (fun k hk => ⟨fun e => ?_, hk.2.2.1⟩), BB.out⟩, HB.out⟩
  obtain ⟨_, _, _, q, hq, cells, hc⟩ := hk
  subst e
  rw [BB.out] at hc
  have : 45 = q := by simpa using congrArg (fun z => match z with | some (Obj.cells _ t _) => t | _ => 0) hc
  subst this
  exact absurd hq (by decide)
set_option maxHeartbeats 8000000 in
set_option maxRecDepth 100000 in
theorem left_ (base top g : Nat) (A : Option Addr) (c : Nat) (l : List Int) (at_ : Nat) (w : World) (hd : IsD w base top g A c l at_) :
    Calls Try.prog 10 #[.pointer (some ⟨g, 0, none⟩)] w fun e w' => e = .returned (.int .i64 ((l.length - at_ : Nat) : Int)) ∧ ∃ n, w' = w.drewN n := by
  have h0 : w.cell? ⟨g, 0, none⟩ = some (.slice A l.length c) := (blk_cell hd.2.2.2.2 0).trans rfl
  have h1 : w.cell? ⟨g, 1, none⟩ = some (.int .i64 (at_ : Int)) := (blk_cell hd.2.2.2.2 1).trans rfl
  have hm : l.length ≤ 9223372036854775807 := by
    obtain ⟨_, _, h⟩ := Kd.R_reads' hd.2.2.2.1
    exact Kd.C_max h
  have HW := Aside0.mk (show wrap64 ((l.length : Int) - (at_ : Int)) = ((l.length - at_ : Nat) : Int) by have := hd.1; unfold wrap64; omega)
  have hw : IntKind.i64.wrap ((l.length : Int) - (at_ : Int)) = ((l.length - at_ : Nat) : Int) := by rw [i64_w]; exact HW.out
  clear hd hm
  go_enter Try.func10, Try.ntmps10
  go_wp2
  go_quiet (fail)
  go_wp2
  go_ret
  exact ⟨by first | rfl | rw [HW.out] | (simp [hw]; done), _, rfl⟩
/-- What Next answers: the number, whether there is one, the place behind. -/
def nxt (l : List Int) (at_ : Nat) (n : Int) : Int × Bool × Nat :=
  if n < 1 then (0, false, at_) else if l.length - at_ = 0 then (0, false, at_) else
    if Int.tmod (rd l (at_ : Int)) n < 0 then (wrap64 (Int.tmod (rd l (at_ : Int)) n + n), true, at_ + 1) else (Int.tmod (rd l (at_ : Int)) n, true, at_ + 1)
set_option maxHeartbeats 8000000 in
set_option maxRecDepth 100000 in
theorem next_a (base top g : Nat) (A : Option Addr) (c : Nat) (l : List Int) (at_ : Nat) (n : Int) (w : World) (hd : IsD w base top g A c l at_) (hn : n < 1) : Calls Try.prog 11 #[.pointer (some ⟨g, 0, none⟩), .int .i64 n] w fun e w' => e = .returned (.tuple #[.int .i64 0, .bool false]) ∧ IsD w' base top g A c l at_ ∧ w.grownBy w' (some g) := by
  have HD := Aside0.mk hd
  have hn1 : (n < 1) = True := eq_true hn
  clear hd hn
  go_enter Try.func11, Try.ntmps11
  go_wp2
  first | go_ret | go_ret2
  exact ⟨rfl, HD.out, ⟨rfl, rfl, rfl, Nat.le_refl _, fun _ _ _ => rfl⟩⟩
set_option maxHeartbeats 8000000 in
set_option maxRecDepth 100000 in
theorem next_b (base top g : Nat) (A : Option Addr) (c : Nat) (l : List Int) (at_ : Nat) (n : Int) (w : World) (hd : IsD w base top g A c l at_) (hn : ¬ n < 1) (hr : l.length - at_ = 0) : Calls Try.prog 11 #[.pointer (some ⟨g, 0, none⟩), .int .i64 n] w fun e w' => e = .returned (.tuple #[.int .i64 0, .bool false]) ∧ IsD w' base top g A c l at_ ∧ w.grownBy w' (some g) := by
  have HD := Aside0.mk hd
  have HLF := Aside0.mk (left_ base top g A c l at_ w hd)
  rw [hr] at HLF
  have hn1 : (n < 1) = False := eq_false hn
  clear hd hn hr
  go_enter Try.func11, Try.ntmps11
  go_wp2_with ((go_at_call 10; with_reducible refine (HLF.out).mono ?_; rintro e wv ⟨rfl, nl, rfl⟩; clear HLF))
  first | go_ret | go_ret2
  exact ⟨rfl, HD.out.drewN _, grown_drewN _ _ _⟩
set_option maxHeartbeats 8000000 in
set_option maxRecDepth 100000 in
theorem next_cp (base top g : Nat) (A : Option Addr) (c : Nat) (l : List Int) (at_ : Nat) (n : Int) (w : World) (hd : IsD w base top g A c l at_) (hn : ¬ n < 1) (hr : ¬ l.length - at_ = 0) (m : Int) (hm : Int.tmod (rd l (at_ : Int)) n = m) (hm0 : ¬ m < 0) : Calls Try.prog 11 #[.pointer (some ⟨g, 0, none⟩), .int .i64 n] w fun e w' => e = .returned (.tuple #[.int .i64 m, .bool true]) ∧ IsD w' base top g A c l (at_ + 1) ∧ w.grownBy w' (some g) := by
  have HD := Aside0.mk hd
  obtain ⟨r, hr2⟩ : ∃ r : Int, r = ((l.length - at_ : Nat) : Int) := ⟨_, rfl⟩
  have HLF := Aside0.mk (left_ base top g A c l at_ w hd)
  rw [← hr2] at HLF
  have hn1 : (n < 1) = False := eq_false hn
  have hn0 : (n = 0) = False := eq_false (by omega)
  have hr0 : (r = 0) = False := eq_false (by omega)
  have hr1 : (r == 0) = false := beq_eq_false_iff_ne.mpr (by omega)
  have HAT := Aside0.mk (show at_ < l.length by omega)
  obtain ⟨_, hnc, hC⟩ := Kd.R_reads' hd.2.2.2.1
  have hmax := Kd.C_max hC
  obtain ⟨ad, rfl, hcl⟩ := Kd.at_int hC (at_ : Int) (by omega) (by omega)
  rw [Int.toNat_natCast] at hcl
  have h0 : w.cell? ⟨g, 0, none⟩ = some (.slice (some ad) l.length c) := (blk_cell hd.2.2.2.2 0).trans rfl
  have h1 : w.cell? ⟨g, 1, none⟩ = some (.int .i64 (at_ : Int)) := (blk_cell hd.2.2.2.2 1).trans rfl
  have hf1 := blk_frozen hd.2.2.2.2 1
  have p1 : (0 ≤ (at_ : Int)) = True := eq_true (by omega)
  have p2 : ((at_ : Int) < (l.length : Int)) = True := eq_true (by omega)
  have hw : wrap64 ((at_ : Int) + 1) = ((at_ + 1 : Nat) : Int) := by unfold wrap64; omega
  have hw' : IntKind.i64.wrap ((at_ : Int) + 1) = ((at_ + 1 : Nat) : Int) := by rw [i64_w]; exact hw
  obtain ⟨x, hx⟩ : ∃ x, x = rd l (at_ : Int) := ⟨_, rfl⟩
  rw [← hx] at hcl hm
  have hmm : (m < 0) = False := eq_false hm0
  clear hd hn hr hr2 hC hmax hx hnc hm0
  go_enter Try.func11, Try.ntmps11
  go_wp2_with ((go_at_call 10; with_reducible refine (HLF.out).mono ?_; rintro e wv ⟨rfl, nl, rfl⟩; clear HLF))
  go_quiet (fail)
  go_wp2
  first | go_ret | go_ret2
  refine ⟨rfl, ⟨HAT.out, HD.out.2.1, ?_, Kd.R_far (Kd.R_drewN HD.out.2.2.2.1 _) (fun k hk => hk.1) _, blk_put (blk_drewN HD.out.2.2.2.2 _) 1 _ rfl⟩, grown_trans (grown_drewN _ _ _) (grown_cell _ _ _ _)⟩
  simp only [World.size_setCell]
  exact HD.out.2.2.1
set_option maxHeartbeats 8000000 in
set_option maxRecDepth 100000 in
theorem next_cn (base top g : Nat) (A : Option Addr) (c : Nat) (l : List Int) (at_ : Nat) (n : Int) (w : World) (hd : IsD w base top g A c l at_) (hn : ¬ n < 1) (hr : ¬ l.length - at_ = 0) (m : Int) (hm : Int.tmod (rd l (at_ : Int)) n = m) (hm0 : m < 0) : Calls Try.prog 11 #[.pointer (some ⟨g, 0, none⟩), .int .i64 n] w fun e w' => e = .returned (.tuple #[.int .i64 (wrap64 (m + n)), .bool true]) ∧ IsD w' base top g A c l (at_ + 1) ∧ w.grownBy w' (some g) := by
  have HD := Aside0.mk hd
  obtain ⟨r, hr2⟩ : ∃ r : Int, r = ((l.length - at_ : Nat) : Int) := ⟨_, rfl⟩
  have HLF := Aside0.mk (left_ base top g A c l at_ w hd)
  rw [← hr2] at HLF
  have hn1 : (n < 1) = False := eq_false hn
  have hn0 : (n = 0) = False := eq_false (by omega)
  have hr0 : (r = 0) = False := eq_false (by omega)
  have hr1 : (r == 0) = false := beq_eq_false_iff_ne.mpr (by omega)
  have HAT := Aside0.mk (show at_ < l.length by omega)
  obtain ⟨_, hnc, hC⟩ := Kd.R_reads' hd.2.2.2.1
  have hmax := Kd.C_max hC
  obtain ⟨ad, rfl, hcl⟩ := Kd.at_int hC (at_ : Int) (by omega) (by omega)
  rw [Int.toNat_natCast] at hcl
  have h0 : w.cell? ⟨g, 0, none⟩ = some (.slice (some ad) l.length c) := (blk_cell hd.2.2.2.2 0).trans rfl
  have h1 : w.cell? ⟨g, 1, none⟩ = some (.int .i64 (at_ : Int)) := (blk_cell hd.2.2.2.2 1).trans rfl
  have hf1 := blk_frozen hd.2.2.2.2 1
  have p1 : (0 ≤ (at_ : Int)) = True := eq_true (by omega)
  have p2 : ((at_ : Int) < (l.length : Int)) = True := eq_true (by omega)
  have hw : wrap64 ((at_ : Int) + 1) = ((at_ + 1 : Nat) : Int) := by unfold wrap64; omega
  have hw' : IntKind.i64.wrap ((at_ : Int) + 1) = ((at_ + 1 : Nat) : Int) := by rw [i64_w]; exact hw
  obtain ⟨x, hx⟩ : ∃ x, x = rd l (at_ : Int) := ⟨_, rfl⟩
  rw [← hx] at hcl hm
  have hmm : (m < 0) = True := eq_true hm0
  clear hd hn hr hr2 hC hmax hx hnc hm0
  go_enter Try.func11, Try.ntmps11
  go_wp2_with ((go_at_call 10; with_reducible refine (HLF.out).mono ?_; rintro e wv ⟨rfl, nl, rfl⟩; clear HLF))
  go_quiet (fail)
  go_wp2
  first | go_ret | go_ret2
  refine ⟨rfl, ⟨HAT.out, HD.out.2.1, ?_, Kd.R_far (Kd.R_drewN HD.out.2.2.2.1 _) (fun k hk => hk.1) _, blk_put (blk_drewN HD.out.2.2.2.2 _) 1 _ rfl⟩, grown_trans (grown_drewN _ _ _) (grown_cell _ _ _ _)⟩
  simp only [World.size_setCell]
  exact HD.out.2.2.1
theorem next_ (base top g : Nat) (A : Option Addr) (c : Nat) (l : List Int) (at_ : Nat) (n : Int) (w : World) (hd : IsD w base top g A c l at_) (r : Int × Bool × Nat) (hr : nxt l at_ n = r) :
    Calls Try.prog 11 #[.pointer (some ⟨g, 0, none⟩), .int .i64 n] w fun e w' => e = .returned (.tuple #[.int .i64 r.1, .bool r.2.1]) ∧ IsD w' base top g A c l r.2.2 ∧ w.grownBy w' (some g) := by
  subst hr
  unfold nxt
  by_cases h1 : n < 1
  · rw [if_pos h1]
    exact next_a base top g A c l at_ n w hd h1
  rw [if_neg h1]
  by_cases h2 : l.length - at_ = 0
  · rw [if_pos h2]
    exact next_b base top g A c l at_ n w hd h1 h2
  rw [if_neg h2]
  by_cases h3 : Int.tmod (rd l (at_ : Int)) n < 0
  · rw [if_pos h3]
    exact next_cn base top g A c l at_ n w hd h1 h2 _ rfl h3
  · rw [if_neg h3]
    exact next_cp base top g A c l at_ n w hd h1 h2 _ rfl h3
end Go.Proofs.Ytabhikacghkcgaa.Draw1
