/- The reader of numbers: change, day. -/
import Derived.Test.YtjpnfhnmcgejhaaDd1
namespace Go.Proofs.Ytjpnfhnmcgejhaa.Dd2
open Go.RowKit Go.Proofs.YtjpnfhnmcgejhaaW.PrintWords Go.Proofs.YtjpnfhnmcgejhaaW.PrintLast Go.Proofs.YtjpnfhnmcgejhaaW.PrintMore Go.Proofs.Ytjpnfhnmcgejhaa.Dc1 Go.Proofs.Ytjpnfhnmcgejhaa.Dc2 Go.Proofs.Ytjpnfhnmcgejhaa.Dc3 Go.Proofs.Ytjpnfhnmcgejhaa.Dc4 Go.Proofs.Ytjpnfhnmcgejhaa.Dd1
attribute [local go_sem] max2_int min2_int max_two min_two max_three min_three max_four min_four
set_option linter.unusedVariables false
set_option linter.unusedSimpArgs false
def chgE (s : ByteArray) (q : Nat) : Int × Nat := match num s q with
  | none => (8, s.size)
  | some _ => (7, q)
theorem chgE_ok {s : ByteArray} {q : Nat} (hs : s.size ≤ 1000000000) (hq : q ≤ 1000000000) : (chgE s q).1 ≠ 0 ∧ (chgE s q).2 ≤ 1000000000 := by
  unfold chgE
  split
  · exact ⟨by show (8 : Int) ≠ 0; decide, hs⟩
  · exact ⟨by show (7 : Int) ≠ 0; decide, hq⟩
def chgP (s : ByteArray) (q : Nat) (sf st : Int) (out : List It) : Option (It × Nat) := (num s q).bind fun n => if (decide ((tld n).2.2 = 0) && fine out (tld n).1 ((tld n).2.1 + (sf - sf % 1440)) sf st) = true then some (((tld n).1, (tld n).2.1 + (sf - sf % 1440), st), q + 2) else none
set_option maxHeartbeats 8000000 in
set_option maxRecDepth 100000 in
theorem chg_n (g : Nat) (s : ByteArray) (q : Nat) (hs : s.size ≤ 1000000000) (hq : q ≤ 1000000000) (h : num s q = none) (sf st : Int) (v : Value) (w : World) (hR : IsRd w g s q) : Calls Try.prog 37 #[.pointer (some ⟨g, 0, none⟩), .agg #[.int .i64 sf, .int .i64 st], v] w fun e w' => e = .returned (.tuple #[.agg #[.int .i64 0, .int .i64 0, .int .i64 0], .int .i64 8]) ∧ IsRd w' g s s.size ∧ WK w w' g := by
  have HS := Aside0.mk hs
  have HQB := Aside0.mk hq
  have HNM := Aside0.mk h
  have HR := Aside0.mk hR
  have HK := Aside0.mk (WK.refl w g)
  clear hs hq h hR
  go_enter Try.func37, Try.ntmps37
  go_wp2_with (first | ((with_reducible refine gate_dst (N := 4) rfl ?_); refine box_event ?hg (N := 4) ?hd (cs := #[.int .i64 sf, .int .i64 st]) (t := 62) ?hr ?_; (case hd => rfl); (case hg => rfl); (case hr => first | (go_simp; done) | (go_simp; rfl)); intro g4 hg_ wv hbox hb; replace HR := Aside0.mk (show IsRd wv g s _ from blk_below HR.out hb); replace HK := Aside0.mk (HK.out.trans (WK.of_below hb g)); have hr1 : wv.cell? ⟨g, 1, none⟩ = some (.int .i64 (q : Int)) := (blk_cell HR.out 1).trans rfl; clear hbox hg_ hb) | ((with_reducible refine gate_dst (N := 6) rfl ?_); refine box_event ?hg (N := 6) ?hd (cs := #[.int .i64 0, .int .i64 0, .int .i64 0]) (t := 48) ?hr ?_; (case hd => rfl); (case hg => rfl); (case hr => first | (go_simp; done) | (go_simp; rfl)); intro g6 hg_ wv hbox hb; have B6 := Aside0.mk hbox; have N6 := Aside0.mk (show g6 ≠ g by have := blk_lt HR.out; omega); have G6 := Aside0.mk (show w.heap.size ≤ g6 by rw [hg_]; exact HK.out.size); replace HR := Aside0.mk (show IsRd wv g s _ from blk_below HR.out hb); replace HK := Aside0.mk (HK.out.trans (WK.of_below hb g)); clear hr1; have hr1 : wv.cell? ⟨g, 1, none⟩ = some (.int .i64 (q : Int)) := (blk_cell HR.out 1).trans rfl; clear hbox hg_ hb) | (go_at_call 36; (with_reducible refine (take_n g s q HS.out HQB.out HNM.out _ HR.out).mono ?_); rintro e_ wv ⟨rfl, hr, hk⟩; replace HR := Aside0.mk hr; replace HK := Aside0.mk (HK.out.trans hk); replace B6 := Aside0.mk (WK.blk hk B6.out N6.out); clear hr hk hr1) | ((with_reducible refine gate_store (t := 48) (p := 6) rfl ?_); refine wpList_store_row rfl 48 _ _ rfl g6 #[.int .i64 0, .int .i64 0, .int .i64 0] rfl rfl 48 #[.int .i64 0, .int .i64 0, .int .i64 0] B6.out (by kernel_rfl) rfl (by simp [Value.oneCell']) ?_; replace HR := Aside0.mk (show IsRd (wv.setRow g6 #[.int .i64 0, .int .i64 0, .int .i64 0]) g s _ from (setRow_other _ _ _ _ (fun e => N6.out e.symm)).trans HR.out); replace HK := Aside0.mk (K_row HK.out G6.out #[.int .i64 0, .int .i64 0, .int .i64 0]); replace B6 := Aside0.mk (setRow_heap _ _ _ #[.int .i64 0, .int .i64 0, .int .i64 0] _ _ B6.out); generalize wv.setRow g6 #[.int .i64 0, .int .i64 0, .int .i64 0] = wv at HR HK B6 ⊢))
  refine bodyPost_ret (results_ct rfl _ _ g6 48 _ (0, 0) _ rfl B6.out Try.underlying48 rfl (by kernel_rfl)) rfl ?_
  exact ⟨rfl, HR.out, HK.out⟩
theorem change_ (g : Nat) (s : ByteArray) (q : Nat) (hs : s.size ≤ 1000000000) (hq : q ≤ 1000000000) (sf st : Int) (hsf : 0 ≤ sf ∧ sf ≤ 40320) (A : Option Addr) (c : Nat) (out : List It) (hlo : out.length ≤ 100000) (w : World) (hR : IsRd w g s q) (hC : RC w g A out) : Calls Try.prog 37 #[.pointer (some ⟨g, 0, none⟩), .agg #[.int .i64 sf, .int .i64 st], .slice A out.length c] w fun e w' => (∀ x q2, chgP s q sf st out = some (x, q2) → e = .returned (.tuple #[.agg #[.int .i64 x.1, .int .i64 x.2.1, .int .i64 x.2.2], .int .i64 0]) ∧ IsRd w' g s q2 ∧ WK w w' g) ∧ (chgP s q sf st out = none → e = .returned (.tuple #[.agg #[.int .i64 0, .int .i64 0, .int .i64 0], .int .i64 (chgE s q).1]) ∧ IsRd w' g s (chgE s q).2 ∧ WK w w' g) := by
  cases h : num s q with
  | none =>
    refine (chg_n g s q hs hq h sf st _ w hR).mono ?_
    rintro e w' ⟨rfl, h1, h2⟩
    have hn : chgP s q sf st out = none := by unfold chgP; rw [h]; rfl
    rw [hn]
    have he : chgE s q = (8, s.size) := by unfold chgE; rw [h]
    rw [he]
    exact ⟨fun x q2 hx => (by cases hx), fun _ => ⟨rfl, h1, h2⟩⟩
  | some n =>
    have he : chgE s q = (7, q) := by unfold chgE; rw [h]
    rw [he]
    obtain ⟨⟨k, m0, ee⟩, htl⟩ : ∃ x, tld n = x := ⟨_, rfl⟩
    have hcp : chgP s q sf st out = if (decide (ee = 0) && fine out k (m0 + (sf - sf % 1440)) sf st) = true then some ((k, m0 + (sf - sf % 1440), st), q + 2) else none := by
      unfold chgP
      rw [h, Option.bind_some, htl]
    rw [hcp]
    have fin : Calls Try.prog 37 #[.pointer (some ⟨g, 0, none⟩), .agg #[.int .i64 sf, .int .i64 st], .slice A out.length c] w fun e w' => match (decide (ee = 0) && fine out k (m0 + (sf - sf % 1440)) sf st) with | true => e = .returned (.tuple #[.agg #[.int .i64 k, .int .i64 (m0 + (sf - sf % 1440)), .int .i64 st], .int .i64 0]) ∧ IsRd w' g s (q + 2) ∧ WK w w' g | false => e = .returned (.tuple #[.agg #[.int .i64 0, .int .i64 0, .int .i64 0], .int .i64 7]) ∧ IsRd w' g s q ∧ WK w w' g := by
      rcases Nat.eq_zero_or_pos out.length with h0 | h0
      · exact chg_0 g s q hs hq n h sf st hsf A c out hlo k m0 ee htl _ rfl (List.eq_nil_of_length_eq_zero h0) w hR hC
      · exact chg_1 g s q hs hq n h sf st hsf A c out hlo k m0 ee htl _ rfl h0 w hR hC
    refine fin.mono ?_
    intro e w' hp
    cases hb : (decide (ee = 0) && fine out k (m0 + (sf - sf % 1440)) sf st) with
    | true =>
      rw [hb] at hp
      rw [if_pos rfl]
      refine ⟨fun x q2 hx => ?_, fun hx => by cases hx⟩
      simp only [Option.some.injEq, Prod.mk.injEq] at hx
      obtain ⟨rfl, rfl⟩ := hx
      exact hp
    | false =>
      rw [hb] at hp
      rw [if_neg (by decide)]
      exact ⟨fun x q2 hx => (by cases hx), fun _ => hp⟩
def lastTo (out : List It) (f : Int) : List It := out.set (out.length - 1) ((ri out (out.length - 1)).1, (ri out (out.length - 1)).2.1, f)
theorem lastTo_len (out : List It) (f : Int) : (lastTo out f).length = out.length := by unfold lastTo; simp
/-- A day's changes, read one behind the other. -/
def dayL (s : ByteArray) (sf st : Int) : Nat → Nat → List It → Option (List It × Nat)
  | 0, q, out => some (out, q)
  | n + 1, q, out => (chgP s q sf st out).bind fun x => dayL s sf st n x.2 (lastTo out x.1.2.1 ++ [x.1])
def dayLE (s : ByteArray) (sf st : Int) : Nat → Nat → List It → Int × Nat
  | 0, _, _ => (7, 0)
  | n + 1, q, out => match chgP s q sf st out with
    | none => chgE s q
    | some x => dayLE s sf st n x.2 (lastTo out x.1.2.1 ++ [x.1])
def dayE (s : ByteArray) (q : Nat) (sf st : Int) : Int × Nat := match num s q with
  | none => (8, s.size)
  | some n => if n = 0 then (7, q) else dayLE s sf st n.toNat (q + 2) []
def dayP (s : ByteArray) (q : Nat) (sf st : Int) : Option (List It × Nat) := (num s q).bind fun n => if n = 0 then none else dayL s sf st n.toNat (q + 2) []
theorem put_to {w : World} {base g c h : Nat} {xs : List It} {k f t : Int} (hR : Kd.R kdi 48 w base (fun _ => True) (.slice (some ⟨g, 0, none⟩) xs.length c) xs) (hx : h < xs.length ∧ ri xs h = (k, f, t)) (u : Int) :
    Kd.R kdi 48 (w.setCell ⟨g, h * 3 + 2, none⟩ (.int .i64 u)) base (fun _ => True) (.slice (some ⟨g, 0, none⟩) xs.length c) (xs.set h (k, f, u)) ∧ w.grownBy (w.setCell ⟨g, h * 3 + 2, none⟩ (.int .i64 u)) (some g) ∧ w.cell? ⟨g, h * 3 + 2, none⟩ = some (.int .i64 t) ∧ w.frozen? ⟨g, h * 3 + 2, none⟩ = false := by
  obtain ⟨ce, hcl, hM, hcc, hfr⟩ := Kd.R_elem hR ((0, 0, 0) : It) (h : Int) (by omega) (by omega)
  rw [Int.toNat_natCast] at hcc hfr hM
  have hgd : xs.getD h (0, 0, 0) = (k, f, t) := hx.2
  rw [hgd] at hM
  obtain ⟨_, _, rfl, rfl, ⟨_, _, rfl, rfl, rfl⟩⟩ := hM
  have hP := Kd.R_seg hR (h : Int) (by omega) (by omega) (seg := [.int .i64 u]) (j := 2) hcl (by rw [Int.toNat_natCast]; exact hcc) (show 3 ≤ 3 from by decide) (x' := ((k, f, u) : It)) ⟨[.int .i64 k], [.int .i64 f, .int .i64 u], rfl, rfl, ⟨[.int .i64 f], [.int .i64 u], rfl, rfl, rfl⟩⟩ (fun _ hk => hk)
  rw [Int.toNat_natCast] at hP
  exact ⟨hP.1, hP.2, hcc 2 _ rfl, hfr 2⟩
theorem R_wkD {w0 w w1 : World} {g : Nat} {v : Value} {xs : List It} (h : Kd.R kdi 48 w w0.heap.size (fun _ => True) v xs) (hg : g < w0.heap.size) (hk : WK w w1 g) : Kd.R kdi 48 w1 w0.heap.size (fun _ => True) v xs :=
  Kd.R_mono (Kd.R_step (Kd.R_bound h) (fun k hk1 hlt => hk.block k hlt (by have := hk1.2.1; omega))) (fun _ _ => trivial)
theorem R_RC {w0 w : World} {g : Nat} {A : Option Addr} {n c : Nat} {xs : List It} (h : Kd.R kdi 48 w w0.heap.size (fun _ => True) (.slice A n c) xs) (hg : g < w0.heap.size) : RC w g A xs ∧ n = xs.length := by
  obtain ⟨h1, h2, h3⟩ := Kd.R_reads' h
  refine ⟨⟨h3, fun ad e hp => ?_⟩, h1⟩
  subst e
  have hb := Kd.R_base h ad.block rfl
  have hl := Kd.R_lt h ad.block rfl
  exact ⟨by omega, hl⟩
theorem R_notD {w : World} {base : Nat} {v : Value} {xs : List It} {g : Nat} (h : Kd.R kdi 48 w base (fun _ => True) v xs) (hn : ∀ k, v.ownBlock = some k → k ≠ g) : Kd.R kdi 48 w base (fun k => k ≠ g) v xs := by
  obtain ⟨h0, inner, ho, hr⟩ := h
  refine ⟨hn, inner, ho, hr.imp_ (fun p c hp => ?_)⟩
  obtain ⟨_, _, rfl, rfl, ⟨_, _, rfl, rfl, rfl⟩⟩ := hp
  exact ⟨[.int .i64 p.1], [.int .i64 p.2.1, .int .i64 p.2.2], rfl, rfl, ⟨[.int .i64 p.2.1], [.int .i64 p.2.2], rfl, rfl, rfl⟩⟩
theorem info48 : (Try.prog.info? 48).map (fun i => (i.zero, i.size, i.bytes)) = some (some (.agg #[(.int .i64 0), (.int .i64 0), (.int .i64 0)]), 3, 24) := by kernel_rfl
theorem und29 : Try.prog.underlying 29 = some (.slice 48) := Try.underlying29
theorem appD {ops : Array Oper} {rest : List Oper} {o : Oper} {a : Act} {Q : Exit → Act → World → Prop} {W : World} (base : Nat) (hgd : o.guard = none) (s x : Operand) (ho : o.op = .call { callee := .builtin .append, args := #[s, x], argTypes := #[29, 29] }) (v : Value) (xs : List It) (p0 p1 p2 : Int) (hs : a.eval s = v) (hx : a.eval x = .slice (some ⟨W.heap.size, 0, none⟩) 1 1)
    (HO : Kd.R kdi 48 W base (fun _ => True) v xs) (hbase : base ≤ W.heap.size) (hl : xs.length ≤ 1000000)
    (h : ∀ v1 w1, Kd.R kdi 48 w1 base (fun _ => True) v1 (xs ++ [(p0, p1, p2)]) → W.grownBy w1 v.ownBlock → wpList Try.prog ops Q rest (a.put o.dst v1) w1) :
    wpList Try.prog ops Q (o :: rest) a (W.alloc (.cells #[.int .i64 p0, .int .i64 p1, .int .i64 p2] 48)) :=
  Kd.R_append kdi (w0 := W) base hgd s x 29 48 (.agg #[(.int .i64 0), (.int .i64 0), (.int .i64 0)]) 24 ho und29 info48 rfl (by decide) (by omega) v xs (p0, p1, p2) [.int .i64 p0, .int .i64 p1, .int .i64 p2] (fun _ => True) (fun _ => False) hs hx ⟨[.int .i64 p0], [.int .i64 p1, .int .i64 p2], rfl, rfl, ⟨[.int .i64 p1], [.int .i64 p2], rfl, rfl, rfl⟩⟩ (fun _ hk => hk.elim) (fun _ _ => trivial) HO (Below.mk rfl rfl rfl (Nat.le_refl _) (fun _ _ => rfl)) hbase (by omega) (fun v1 w1 h1 _ h3 h4 => h v1 w1 h1 h3)
def PostD (g : Nat) (s : ByteArray) (w : World) (R : Option (List It × Nat)) (E : Int × Nat) (e : Ending) (w' : World) : Prop := (∀ l q2, R = some (l, q2) → ∃ v, e = .returned (.tuple #[v, .int .i64 0]) ∧ Kd.R kdi 48 w' w.heap.size (fun _ => True) v l ∧ IsRd w' g s q2 ∧ WK w w' g) ∧ (R = none → e = .returned (.tuple #[.slice none 0 0, .int .i64 E.1]) ∧ E.1 ≠ 0 ∧ IsRd w' g s E.2 ∧ WK w w' g)
set_option maxHeartbeats 8000000 in
set_option maxRecDepth 100000 in
theorem day_n (g : Nat) (s : ByteArray) (q : Nat) (hs : s.size ≤ 1000000000) (hq : q ≤ 1000000000) (sf st : Int) (h : num s q = none) (w : World) (hR : IsRd w g s q) : Calls Try.prog 28 #[.pointer (some ⟨g, 0, none⟩), .agg #[.int .i64 sf, .int .i64 st]] w fun e w' => e = .returned (.tuple #[.slice none 0 0, .int .i64 8]) ∧ IsRd w' g s s.size ∧ WK w w' g := by
  have HS := Aside0.mk hs
  have HQB := Aside0.mk hq
  have HR := Aside0.mk hR
  have HK := Aside0.mk (WK.refl w g)
  have HNM := Aside0.mk h
  clear hs hq hR h
  go_enter Try.func28, Try.ntmps28
  go_wp2_with (first | ((with_reducible refine gate_dst (N := 3) rfl ?_); refine box_event ?hg (N := 3) ?hd (cs := #[.int .i64 sf, .int .i64 st]) (t := 62) ?hr ?_; (case hd => rfl); (case hg => rfl); (case hr => first | (go_simp; done) | (go_simp; rfl)); intro g3 hg_ wv hbox hb; have B3 := Aside0.mk hbox; have N3 := Aside0.mk (show g3 ≠ g by have := blk_lt HR.out; omega); have G3 := Aside0.mk (show w.heap.size ≤ g3 by rw [hg_]; exact HK.out.size); replace HR := Aside0.mk (show IsRd wv g s _ from blk_below HR.out hb); replace HK := Aside0.mk (HK.out.trans (WK.of_below hb g)); have hr1 : wv.cell? ⟨g, 1, none⟩ = some (.int .i64 (q : Int)) := (blk_cell HR.out 1).trans rfl; clear hbox hg_ hb) | (go_at_call 36; (with_reducible refine (take_n g s q HS.out HQB.out HNM.out _ HR.out).mono ?_); rintro e_ wv ⟨rfl, hr, hk⟩; replace HR := Aside0.mk hr; replace HK := Aside0.mk (HK.out.trans hk); clear hr hk hr1 B3))
  first | go_ret | go_ret2
  exact ⟨rfl, HR.out, HK.out⟩
set_option maxHeartbeats 8000000 in
set_option maxRecDepth 100000 in
theorem day_z (g : Nat) (s : ByteArray) (q : Nat) (hs : s.size ≤ 1000000000) (hq : q ≤ 1000000000) (sf st : Int) (h : num s q = some 0) (w : World) (hR : IsRd w g s q) : Calls Try.prog 28 #[.pointer (some ⟨g, 0, none⟩), .agg #[.int .i64 sf, .int .i64 st]] w fun e w' => e = .returned (.tuple #[.slice none 0 0, .int .i64 7]) ∧ IsRd w' g s q ∧ WK w w' g := by
  have HS := Aside0.mk hs
  have HQB := Aside0.mk hq
  have HR := Aside0.mk hR
  have HK := Aside0.mk (WK.refl w g)
  obtain ⟨n, hn⟩ : ∃ n : Int, n = 0 := ⟨_, rfl⟩
  rw [← hn] at h
  have HNM := Aside0.mk h
  have e1 : (n == 0) = true := by rw [hn]; rfl
  clear hs hq hR h hn
  go_enter Try.func28, Try.ntmps28
  go_wp2_with (first | ((with_reducible refine gate_dst (N := 3) rfl ?_); refine box_event ?hg (N := 3) ?hd (cs := #[.int .i64 sf, .int .i64 st]) (t := 62) ?hr ?_; (case hd => rfl); (case hg => rfl); (case hr => first | (go_simp; done) | (go_simp; rfl)); intro g3 hg_ wv hbox hb; have B3 := Aside0.mk hbox; have N3 := Aside0.mk (show g3 ≠ g by have := blk_lt HR.out; omega); have G3 := Aside0.mk (show w.heap.size ≤ g3 by rw [hg_]; exact HK.out.size); replace HR := Aside0.mk (show IsRd wv g s _ from blk_below HR.out hb); replace HK := Aside0.mk (HK.out.trans (WK.of_below hb g)); have hr1 : wv.cell? ⟨g, 1, none⟩ = some (.int .i64 (q : Int)) := (blk_cell HR.out 1).trans rfl; clear hbox hg_ hb) | (go_at_call 36; (with_reducible refine (take_y g s q HS.out HQB.out n HNM.out _ HR.out).mono ?_); rintro e_ wv ⟨rfl, hr, hk⟩; replace HR := Aside0.mk hr; replace HK := Aside0.mk (HK.out.trans hk); replace B3 := Aside0.mk (WK.blk hk B3.out N3.out); clear hr hk hr1; have hr2 : wv.cell? ⟨g, 1, none⟩ = some (.int .i64 ((q + 2 : Nat) : Int)) := (blk_cell HR.out 1).trans rfl; have hfz := blk_frozen HR.out 1; clear B3) | ((with_reducible refine gate_store (t := 3) (p := 31) rfl ?_); refine store_event (t := 3) (p := 31) (v := .tmp 29) (w1 := (wv.setCell ⟨g, 1, none⟩ (.int .i64 (q : Int)))) ?hg ?ho ?hn ?hr ?_; (case ho => rfl); (case hg => rfl); (case hn => rfl); (case hr => first | (go_simp; done) | (go_simp; rfl)); intro wv hw; replace HR := Aside0.mk (show IsRd wv g s q by rw [hw]; exact blk_put HR.out 1 _ rfl); replace HK := Aside0.mk (show WK w wv g by rw [hw]; exact HK.out.set 1 _); clear hw hr2 hfz))
  first | go_ret | go_ret2
  exact ⟨rfl, HR.out, HK.out⟩
set_option maxHeartbeats 8000000 in
set_option maxRecDepth 100000 in
theorem day_ (g : Nat) (s : ByteArray) (q : Nat) (hs : s.size ≤ 1000000000) (hq : q ≤ 1000000000) (sf st : Int) (hsf : 0 ≤ sf ∧ sf ≤ 40320) (n : Int) (h : num s q = some n) (h0 : n ≠ 0) (R : Option (List It × Nat)) (hRR : dayL s sf st n.toNat (q + 2) [] = R) (E : Int × Nat) (hEE : dayLE s sf st n.toNat (q + 2) [] = E) (w : World) (hR : IsRd w g s q) : Calls Try.prog 28 #[.pointer (some ⟨g, 0, none⟩), .agg #[.int .i64 sf, .int .i64 st]] w fun e w' => PostD g s w R E e w' := by
  have HS := Aside0.mk hs
  have HQB := Aside0.mk hq
  have HR := Aside0.mk hR
  have HK := Aside0.mk (WK.refl w g)
  have HNM := Aside0.mk h
  have hnr := num_rng h
  obtain ⟨N, hN⟩ : ∃ N : Nat, n = (N : Int) := ⟨n.toNat, by omega⟩
  have hqs := hnr.2.2
  subst hN
  rw [Int.toNat_natCast] at hRR hEE
  have HEE := Aside0.mk hEE
  obtain ⟨n, hn⟩ : ∃ n : Int, n = (N : Int) := ⟨_, rfl⟩
  rw [← hn] at HNM
  have HNN := Aside0.mk hn
  have HN := Aside0.mk (show N ≤ 65535 by omega)
  have HQ2 := Aside0.mk (show q + 2 ≤ 1000000000 by omega)
  have HRR := Aside0.mk hRR
  have HSF := Aside0.mk hsf
  have HGL := Aside0.mk (blk_lt hR)
  have e0 : (n == 0) = false := beq_eq_false_iff_ne.mpr (by omega)
  clear hs hq hR h h0 hnr hqs hRR hEE hsf hn
  go_enter Try.func28, Try.ntmps28
  go_wp2_with (first | ((with_reducible refine gate_dst (N := 3) rfl ?_); refine box_event ?hg (N := 3) ?hd (cs := #[.int .i64 sf, .int .i64 st]) (t := 62) ?hr ?_; (case hd => rfl); (case hg => rfl); (case hr => first | (go_simp; done) | (go_simp; rfl)); intro g3 hg_ wv hbox hb; have B3 := Aside0.mk hbox; have N3 := Aside0.mk (show g3 ≠ g by have := blk_lt HR.out; omega); have G3 := Aside0.mk (show w.heap.size ≤ g3 by rw [hg_]; exact HK.out.size); replace HR := Aside0.mk (show IsRd wv g s _ from blk_below HR.out hb); replace HK := Aside0.mk (HK.out.trans (WK.of_below hb g)); have hr1 : wv.cell? ⟨g, 1, none⟩ = some (.int .i64 (q : Int)) := (blk_cell HR.out 1).trans rfl; clear hbox hg_ hb) | (go_at_call 36; (with_reducible refine (take_y g s q HS.out HQB.out n HNM.out _ HR.out).mono ?_); rintro e_ wv ⟨rfl, hr, hk⟩; replace HR := Aside0.mk hr; replace HK := Aside0.mk (HK.out.trans hk); replace B3 := Aside0.mk (WK.blk hk B3.out N3.out); clear hr hk hr1))
  clear e0
  go_loopg [9, 33] N (fun kq v9 v33 w' => ∃ (i q : Nat) (out : List It), v33 = .int .i64 (i : Int) ∧ Aside0 (i ≤ N) ∧ Aside0 (N - i ≤ kq) ∧ Aside0 (dayL s sf st (N - i) q out = R) ∧ Aside0 (R = none → dayLE s sf st (N - i) q out = E) ∧ Aside0 (out.length = i) ∧ Aside0 (q ≤ 1000000000) ∧ Aside0 (IsRd w' g s q) ∧ Aside0 (WK w w' g) ∧ Aside0 (w'.heap[g3]? = some (.cells #[.int .i64 sf, .int .i64 st] 62 (0, 0))) ∧ Aside0 (Kd.R kdi 48 w' w.heap.size (fun _ => True) v9 out))
  case atStart => exact ⟨0, q + 2, [], rfl, ⟨Nat.zero_le _⟩, ⟨by omega⟩, ⟨by rw [Nat.sub_zero]; exact HRR.out⟩, ⟨fun _ => by rw [Nat.sub_zero]; exact HEE.out⟩, ⟨rfl⟩, HQ2, HR, HK, B3, ⟨Kd.R_nil _ _ _ _ _⟩⟩
  case round =>
    clear HR HK B3 HRR HQ2 HEE
    obtain ⟨i, q, out, rfl, HI, HKQ, HRR, HEE, HLN, HQ, HR, HK, B3, HO⟩ := hrel
    obtain ⟨A9, n9, c9, e9⟩ : ∃ A9 n9 c9, u9 = Value.slice A9 n9 c9 := by obtain ⟨A9, c9, e9⟩ := Kd.R_slice HO.out; exact ⟨A9, _, c9, e9⟩
    obtain rfl : n9 = out.length := by have h := HO.out; rw [e9] at h; exact (R_RC h HGL.out).2
    subst e9
    by_cases ci : i < N
    · have hs0 : wr.cell? ⟨g3, 0, none⟩ = some (.int .i64 sf) := (blk_cell B3.out 0).trans rfl
      have hs1 : wr.cell? ⟨g3, 1, none⟩ = some (.int .i64 st) := (blk_cell B3.out 1).trans rfl
      have hrr := HRR.out
      obtain ⟨d, hd⟩ : ∃ d, N - i = d + 1 := ⟨N - i - 1, by omega⟩
      have hee := HEE.out
      rw [hd, dayL] at hrr
      rw [hd, dayLE] at hee
      have c1_ : ((i : Int) < n) = True := eq_true (by rw [HNN.out]; omega)
      have HIN := Aside0.mk ci
      have HW2 := Aside0.mk (show wrap64 ((i : Int) + 1) = ((i + 1 : Nat) : Int) by have := HN.out; unfold wrap64; omega)
      have HD := Aside0.mk hd
      cases hcp : chgP s q sf st out with
      | none =>
        rw [hcp] at hrr hee
        have HCP := Aside0.mk hcp
        have HRN := Aside0.mk (show R = none from hrr.symm)
        have HEN := Aside0.mk (show chgE s q = E from hee hrr.symm)
        clear hcp hrr hee ci hd
        go_wp2_with (first | (go_at_call 37; (with_reducible refine (change_ g s q HS.out HQ.out sf st HSF.out A9 c9 out (by have := HLN.out; have := HI.out; have := HN.out; omega) _ HR.out (R_RC HO.out HGL.out).1).mono ?_); rintro e_ wv hp; obtain ⟨rfl, hr, hk⟩ := hp.2 HCP.out; have he := (chgE_ok HS.out HQ.out).1; have HE := Aside0.mk he; have e1 : ((chgE s q).1 != 0) = true := bne_iff_ne.mpr he; replace HR := Aside0.mk hr; replace HK := Aside0.mk (HK.out.trans hk); clear hr hk hp he HO B3 hs0 hs1) | ((with_reducible refine gate_dst (N := 10) rfl ?_); refine box_event ?hg (N := 10) ?hd (cs := #[.int .i64 0, .int .i64 0, .int .i64 0]) (t := 48) ?hr ?_; (case hd => rfl); (case hg => rfl); (case hr => first | (go_simp; done) | (go_simp; rfl)); intro g10 hg_ wv hbox hb; have B10 := Aside0.mk hbox; have G10 := Aside0.mk (show w.heap.size ≤ g10 by rw [hg_]; exact HK.out.size); have N10 := Aside0.mk (show g10 ≠ g by have := blk_lt HR.out; omega); replace HR := Aside0.mk (show IsRd wv g s _ from blk_below HR.out hb); replace HK := Aside0.mk (HK.out.trans (WK.of_below hb g)); clear hbox hg_ hb) | ((with_reducible refine gate_store (t := 48) (p := 10) rfl ?_); refine wpList_store_row rfl 48 _ _ rfl g10 #[.int .i64 0, .int .i64 0, .int .i64 0] rfl rfl 48 #[.int .i64 0, .int .i64 0, .int .i64 0] B10.out (by kernel_rfl) rfl (by simp [Value.oneCell']) ?_; replace HR := Aside0.mk (show IsRd (wv.setRow g10 #[.int .i64 0, .int .i64 0, .int .i64 0]) g s _ from (setRow_other _ _ _ _ (fun e => N10.out e.symm)).trans HR.out); replace HK := Aside0.mk (K_row HK.out G10.out #[.int .i64 0, .int .i64 0, .int .i64 0]); replace B10 := Aside0.mk (setRow_heap _ _ _ #[.int .i64 0, .int .i64 0, .int .i64 0] _ _ B10.out); generalize wv.setRow g10 #[.int .i64 0, .int .i64 0, .int .i64 0] = wv at HR HK B10 ⊢))
        first | go_ret | go_ret2
        rw [HRN.out]
        rw [← HEN.out]
        exact ⟨fun l q2 h => (by cases h), fun _ => ⟨rfl, HE.out, HR.out, HK.out⟩⟩
      | some xq =>
        obtain ⟨⟨xk, xf, xt⟩, q2⟩ := xq
        rw [hcp, Option.bind_some] at hrr
        rw [hcp] at hee
        dsimp only at hrr hee
        have HEN := Aside0.mk hee
        have HCP := Aside0.mk hcp
        have HQ2 := Aside0.mk (show q2 ≤ 1000000000 by
          have h := hcp
          unfold chgP at h
          obtain ⟨m, hm, h⟩ := Option.bind_eq_some_iff.mp h
          have := num_rng hm
          have := HS.out
          split at h
          · simp only [Option.some.injEq, Prod.mk.injEq] at h
            omega
          · cases h)
        have HRN := Aside0.mk hrr
        rcases Nat.eq_zero_or_pos i with h0 | h0
        · have ho := List.eq_nil_of_length_eq_zero (HLN.out.trans h0)
          have hl0 : out.length = 0 := HLN.out.trans h0
          have HRM := Aside0.mk (show dayL s sf st (N - (i + 1)) q2 (out ++ [(xk, xf, xt)]) = R by
            rw [show N - (i + 1) = d by have := HD.out; omega]
            rw [← HRN.out, ho]
            rfl)
          have hwm : wrap64 ((out.length : Int) - 1) = -1 := by rw [hl0]; unfold wrap64; omega
          have HEM := Aside0.mk (show R = none → dayLE s sf st (N - (i + 1)) q2 (out ++ [(xk, xf, xt)]) = E by
            rw [show N - (i + 1) = d by have := HD.out; omega]
            intro hn
            rw [← HEN.out hn, ho]
            rfl)
          clear hcp hrr hee ci hd h0 ho hl0
          go_wp2_with (first | (go_at_call 37; (with_reducible refine (change_ g s q HS.out HQ.out sf st HSF.out A9 c9 out (by have := HLN.out; have := HI.out; have := HN.out; omega) _ HR.out (R_RC HO.out HGL.out).1).mono ?_); rintro e_ wv hp; obtain ⟨rfl, hr, hk⟩ := hp.1 _ _ HCP.out; replace HR := Aside0.mk hr; replace HK := Aside0.mk (HK.out.trans hk); replace B3 := Aside0.mk (WK.blk hk B3.out N3.out); replace HO := Aside0.mk (R_wkD HO.out HGL.out hk); clear hr hk hp hs0 hs1) | ((with_reducible refine gate_dst (N := 10) rfl ?_); refine box_event ?hg (N := 10) ?hd (cs := #[.int .i64 0, .int .i64 0, .int .i64 0]) (t := 48) ?hr ?_; (case hd => rfl); (case hg => rfl); (case hr => first | (go_simp; done) | (go_simp; rfl)); intro g10 hg_ wv hbox hb; have B10 := Aside0.mk hbox; have G10 := Aside0.mk (show w.heap.size ≤ g10 by rw [hg_]; exact HK.out.size); have N10 := Aside0.mk (show g10 ≠ g by have := blk_lt HR.out; omega); have NO := Aside0.mk (show ∀ k, (Value.slice A9 out.length c9).ownBlock = some k → k ≠ g10 from fun k hk e => by have := Kd.R_lt HO.out k hk; omega); replace B3 := Aside0.mk (blk_below B3.out hb); replace HO := Aside0.mk (R_wkD HO.out HGL.out (WK.of_below hb g)); replace HR := Aside0.mk (show IsRd wv g s _ from blk_below HR.out hb); replace HK := Aside0.mk (HK.out.trans (WK.of_below hb g)); clear hbox hg_ hb) | ((with_reducible refine gate_store (t := 48) (p := 10) rfl ?_); refine wpList_store_row rfl 48 _ _ rfl g10 #[.int .i64 xk, .int .i64 xf, .int .i64 xt] rfl rfl 48 #[.int .i64 0, .int .i64 0, .int .i64 0] B10.out (by kernel_rfl) rfl (by simp [Value.oneCell']) ?_; replace HO := Aside0.mk (Kd.R_mono (Kd.R_step (R_notD HO.out NO.out) (fun k hk _ => setRow_other wv g10 k #[.int .i64 xk, .int .i64 xf, .int .i64 xt] hk)) (fun _ _ => trivial)); replace B3 := Aside0.mk ((setRow_other _ _ _ #[.int .i64 xk, .int .i64 xf, .int .i64 xt] (blk_ne B3.out B10.out (by decide))).trans B3.out); replace HR := Aside0.mk (show IsRd (wv.setRow g10 #[.int .i64 xk, .int .i64 xf, .int .i64 xt]) g s _ from (setRow_other _ _ _ _ (fun e => N10.out e.symm)).trans HR.out); replace HK := Aside0.mk (K_row HK.out G10.out #[.int .i64 xk, .int .i64 xf, .int .i64 xt]); replace B10 := Aside0.mk (setRow_heap _ _ _ #[.int .i64 xk, .int .i64 xf, .int .i64 xt] _ _ B10.out); generalize wv.setRow g10 #[.int .i64 xk, .int .i64 xf, .int .i64 xt] = wv at HR HK B10 HO B3 ⊢; have hb1 : wv.cell? ⟨g10, 1, none⟩ = some (.int .i64 xf) := (blk_cell B10.out 1).trans rfl) | ((with_reducible refine gate_dst (N := 57) rfl ?_); refine wpList_load_row rfl 48 (.tmp 10) rfl g10 rfl 48 #[.int .i64 xk, .int .i64 xf, .int .i64 xt] (0, 0) _ B10.out Try.underlying48 rfl (by kernel_rfl) ?_) | ((with_reducible refine gate_builtin (b := .append) (xs := #[.tmp 56, .tmp 58]) rfl ?_); at_builtin; refine appD w.heap.size rfl (.tmp 56) (.tmp 58) rfl (.slice A9 out.length c9) out xk xf xt rfl rfl HO.out HK.out.size (by have := HLN.out; have := HI.out; have := HN.out; omega) ?_; intro v1 w1 ho hg; replace HR := Aside0.mk (show IsRd w1 g s _ from blk_row HR.out hg (fun e => Kd.R_ne HO.out HR.out (by decide) e.symm)); replace B3 := Aside0.mk (blk_row B3.out hg (fun e => Kd.R_ne HO.out B3.out (by decide) e.symm)); replace HK := Aside0.mk (WK.grown HK.out hg (fun k e => Kd.R_base HO.out k e)); replace HO := Aside0.mk ho; clear ho hg hb1))
          go_roundg (N - (i + 1))
          case measure => have := HKQ.out; have := HIN.out; omega
          case rel => exact ⟨i + 1, q2, out ++ [(xk, xf, xt)], by first | rfl | rw [HW2.out], ⟨by have := HIN.out; omega⟩, ⟨by omega⟩, HRM, HEM, ⟨by rw [List.length_append, HLN.out]; rfl⟩, HQ2, HR, HK, B3, HO⟩
        · obtain ⟨h, hh⟩ : ∃ h, out.length = h + 1 := ⟨out.length - 1, by have := HLN.out; omega⟩
          obtain ⟨g9, c9_, e9, hbg, hlt, _⟩ := Kd.R_form HO.out (by omega)
          obtain ⟨rfl, rfl⟩ : A9 = some ⟨g9, 0, none⟩ ∧ c9 = c9_ := by injection e9 with a b c; exact ⟨a, c⟩
          obtain ⟨⟨ok_, of_, ot_⟩, hri⟩ : ∃ r, ri out h = r := ⟨_, rfl⟩
          have HX := Aside0.mk (show h < out.length ∧ ri out h = (ok_, of_, ot_) from ⟨by omega, hri⟩)
          have HLT := Aside0.mk (show out.set h (ok_, of_, xf) = lastTo out xf by
            unfold lastTo
            rw [show out.length - 1 = h by omega, hri])
          have HRM := Aside0.mk (show dayL s sf st (N - (i + 1)) q2 (lastTo out xf ++ [(xk, xf, xt)]) = R by
            rw [show N - (i + 1) = d by have := HD.out; omega]
            exact HRN.out)
          have hwm : wrap64 ((out.length : Int) - 1) = (h : Int) := by have := HN.out; have := HLN.out; unfold wrap64; omega
          have p1 : (0 ≤ (h : Int)) = True := eq_true (by omega)
          have p2 : ((h : Int) < (out.length : Int)) = True := eq_true (by omega)
          have p3 : ((h : Int) ≥ 0) = True := eq_true (by omega)
          have HEM := Aside0.mk (show R = none → dayLE s sf st (N - (i + 1)) q2 (lastTo out xf ++ [(xk, xf, xt)]) = E by
            rw [show N - (i + 1) = d by have := HD.out; omega]
            exact HEN.out)
          clear hcp hrr hee ci hd h0 hh e9 hbg hlt hri
          go_wp2_with (first | (go_at_call 37; (with_reducible refine (change_ g s q HS.out HQ.out sf st HSF.out (some ⟨g9, 0, none⟩) c9 out (by have := HLN.out; have := HI.out; have := HN.out; omega) _ HR.out (R_RC HO.out HGL.out).1).mono ?_); rintro e_ wv hp; obtain ⟨rfl, hr, hk⟩ := hp.1 _ _ HCP.out; replace HR := Aside0.mk hr; replace HK := Aside0.mk (HK.out.trans hk); replace B3 := Aside0.mk (WK.blk hk B3.out N3.out); replace HO := Aside0.mk (R_wkD HO.out HGL.out hk); clear hr hk hp hs0 hs1) | ((with_reducible refine gate_dst (N := 10) rfl ?_); refine box_event ?hg (N := 10) ?hd (cs := #[.int .i64 0, .int .i64 0, .int .i64 0]) (t := 48) ?hr ?_; (case hd => rfl); (case hg => rfl); (case hr => first | (go_simp; done) | (go_simp; rfl)); intro g10 hg_ wv hbox hb; have B10 := Aside0.mk hbox; have G10 := Aside0.mk (show w.heap.size ≤ g10 by rw [hg_]; exact HK.out.size); have N10 := Aside0.mk (show g10 ≠ g by have := blk_lt HR.out; omega); have NO := Aside0.mk (show ∀ k, (Value.slice (some ⟨g9, 0, none⟩) out.length c9).ownBlock = some k → k ≠ g10 from fun k hk e => by have := Kd.R_lt HO.out k hk; omega); replace B3 := Aside0.mk (blk_below B3.out hb); replace HO := Aside0.mk (R_wkD HO.out HGL.out (WK.of_below hb g)); replace HR := Aside0.mk (show IsRd wv g s _ from blk_below HR.out hb); replace HK := Aside0.mk (HK.out.trans (WK.of_below hb g)); clear hbox hg_ hb) | ((with_reducible refine gate_store (t := 48) (p := 10) rfl ?_); refine wpList_store_row rfl 48 _ _ rfl g10 #[.int .i64 xk, .int .i64 xf, .int .i64 xt] rfl rfl 48 #[.int .i64 0, .int .i64 0, .int .i64 0] B10.out (by kernel_rfl) rfl (by simp [Value.oneCell']) ?_; replace HO := Aside0.mk (Kd.R_mono (Kd.R_step (R_notD HO.out NO.out) (fun k hk _ => setRow_other wv g10 k #[.int .i64 xk, .int .i64 xf, .int .i64 xt] hk)) (fun _ _ => trivial)); replace B3 := Aside0.mk ((setRow_other _ _ _ #[.int .i64 xk, .int .i64 xf, .int .i64 xt] (blk_ne B3.out B10.out (by decide))).trans B3.out); replace HR := Aside0.mk (show IsRd (wv.setRow g10 #[.int .i64 xk, .int .i64 xf, .int .i64 xt]) g s _ from (setRow_other _ _ _ _ (fun e => N10.out e.symm)).trans HR.out); replace HK := Aside0.mk (K_row HK.out G10.out #[.int .i64 xk, .int .i64 xf, .int .i64 xt]); replace B10 := Aside0.mk (setRow_heap _ _ _ #[.int .i64 xk, .int .i64 xf, .int .i64 xt] _ _ B10.out); generalize wv.setRow g10 #[.int .i64 xk, .int .i64 xf, .int .i64 xt] = wv at HR HK B10 HO B3 ⊢; have hb1 : wv.cell? ⟨g10, 1, none⟩ = some (.int .i64 xf) := (blk_cell B10.out 1).trans rfl) | ((with_reducible refine gate_store (t := 3) (p := 55) rfl ?_); refine store_event (t := 3) (p := 55) (v := .tmp 53) (w1 := (wv.setCell ⟨g9, h * 3 + 2, none⟩ (.int .i64 xf))) ?hg ?ho ?hn ?hr ?_; (case ho => rfl); (case hg => rfl); (case hn => rfl); (case hr => (obtain ⟨hp1, hp2, hp3, hp4⟩ := put_to HO.out HX.out xf; first | (go_simp; done) | (go_simp; rfl))); intro wy hw; obtain ⟨hp1, hp2, hp3, hp4⟩ := put_to HO.out HX.out xf; rw [← hw] at hp1 hp2; replace HR := Aside0.mk (show IsRd wy g s _ from blk_row HR.out hp2 (fun e => Kd.R_ne HO.out HR.out (by decide) e.symm)); replace B3 := Aside0.mk (blk_row B3.out hp2 (fun e => Kd.R_ne HO.out B3.out (by decide) e.symm)); replace B10 := Aside0.mk (blk_row B10.out hp2 (fun e => NO.out g10 e rfl)); replace HK := Aside0.mk (WK.grown HK.out hp2 (fun k e => Kd.R_base HO.out k e)); rw [HLT.out] at hp1; replace HO := Aside0.mk hp1; clear hp1 hp2 hp3 hp4 hw hb1; have hb1 : wy.cell? ⟨g10, 1, none⟩ = some (.int .i64 xf) := (blk_cell B10.out 1).trans rfl) | ((with_reducible refine gate_dst (N := 57) rfl ?_); refine wpList_load_row rfl 48 (.tmp 10) rfl g10 rfl 48 #[.int .i64 xk, .int .i64 xf, .int .i64 xt] (0, 0) _ B10.out Try.underlying48 rfl (by kernel_rfl) ?_) | ((with_reducible refine gate_builtin (b := .append) (xs := #[.tmp 56, .tmp 58]) rfl ?_); at_builtin; refine appD w.heap.size rfl (.tmp 56) (.tmp 58) rfl (.slice (some ⟨g9, 0, none⟩) out.length c9) (lastTo out xf) xk xf xt rfl rfl HO.out HK.out.size (by rw [lastTo_len]; have := HLN.out; have := HI.out; have := HN.out; omega) ?_; intro v1 w1 ho hg; replace HR := Aside0.mk (show IsRd w1 g s _ from blk_row HR.out hg (fun e => Kd.R_ne HO.out HR.out (by decide) e.symm)); replace B3 := Aside0.mk (blk_row B3.out hg (fun e => Kd.R_ne HO.out B3.out (by decide) e.symm)); replace HK := Aside0.mk (WK.grown HK.out hg (fun k e => Kd.R_base HO.out k e)); replace HO := Aside0.mk ho; clear ho hg hb1))
          go_roundg (N - (i + 1))
          case measure => have := HKQ.out; have := HIN.out; omega
          case rel => exact ⟨i + 1, q2, lastTo out xf ++ [(xk, xf, xt)], by first | rfl | rw [HW2.out], ⟨by have := HIN.out; omega⟩, ⟨by omega⟩, HRM, HEM, ⟨by rw [List.length_append, lastTo_len, HLN.out]; rfl⟩, HQ2, HR, HK, B3, HO⟩
    · obtain rfl : i = N := by have := HI.out; omega
      have hrr := HRR.out
      rw [Nat.sub_self, dayL] at hrr
      have c1_ : ((i : Int) < n) = False := eq_false (by rw [HNN.out]; omega)
      have HRN := Aside0.mk hrr
      clear hrr ci
      go_wp2
      first | go_ret | go_ret2
      rw [← HRN.out]
      refine ⟨fun l q2 h => ?_, fun h => by cases h⟩
      simp only [Option.some.injEq, Prod.mk.injEq] at h
      obtain ⟨rfl, rfl⟩ := h
      exact ⟨_, rfl, HO.out, HR.out, HK.out⟩
end Go.Proofs.Ytjpnfhnmcgejhaa.Dd2
