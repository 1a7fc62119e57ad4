/- disc.days: each day's changes are handed on. -/
import Derived.Test.YtjpnfhnmcgejhaaDc2
namespace Go.Proofs.Ytjpnfhnmcgejhaa.Dc3
open Go.RowKit Go.Proofs.YtjpnfhnmcgejhaaW.PrintWords Go.Proofs.YtjpnfhnmcgejhaaW.PrintLast Go.Proofs.YtjpnfhnmcgejhaaW.PrintMore Go.Proofs.Ytjpnfhnmcgejhaa.Dc1 Go.Proofs.Ytjpnfhnmcgejhaa.Dc2
attribute [local go_sem] max2_int min2_int max_two min_two max_three min_three max_four min_four
set_option linter.unusedVariables false
set_option linter.unusedSimpArgs false
abbrev It := Int × Int × Int
abbrev kdi : Kd It := Kd.pair (Kd.int .i64) (Kd.pair (Kd.int .i64) (Kd.int .i64))
def ri (xs : List It) (i : Nat) : It := xs.getD i (0, 0, 0)
theorem at_H {w : World} {A : Option Addr} {n : Nat} {xs : List It} (h : Kd.C kdi w A n xs) (i : Nat) (h1 : i < n) : ∃ ad, A = some ad ∧ w.cell? (ad.add (i * 3)) = some (.int .i64 (ri xs i).1) ∧ w.cell? ⟨(ad.add (i * 3)).block, (ad.add (i * 3)).off + 1, none⟩ = some (.int .i64 (ri xs i).2.1) ∧ w.cell? ⟨(ad.add (i * 3)).block, (ad.add (i * 3)).off + 2, none⟩ = some (.int .i64 (ri xs i).2.2) := by
  obtain ⟨ad, c, e, _, hK, hc0⟩ := Kd.C_get h ((0, 0, 0) : It) (i : Int) (by omega) (by omega)
  rw [Int.toNat_natCast] at hc0 hK
  have hc : ∀ j u, c[j]? = some u → w.cell? (ad.add (i * 3 + j)) = some u := hc0
  obtain ⟨_, _, rfl, rfl, ⟨_, _, rfl, rfl, rfl⟩⟩ := hK
  exact ⟨ad, e, hc 0 _ rfl, by rw [← add_field _ _ 1 (by omega)]; exact hc 1 _ rfl, by rw [← add_field _ _ 2 (by omega)]; exact hc 2 _ rfl⟩
/-- Records that stand in a block that is not the writer's. -/
def RC (w : World) (g : Nat) (A : Option Addr) (xs : List It) : Prop := Kd.C kdi w A xs.length xs ∧ ∀ ad, A = some ad → 0 < xs.length → ad.block ≠ g ∧ ad.block < w.heap.size
theorem RC.wk {w w1 : World} {g : Nat} {A : Option Addr} {xs : List It} (h : RC w g A xs) (hk : WK w w1 g) : RC w1 g A xs := by
  obtain ⟨⟨h1, h2, h3⟩, h4⟩ := h
  refine ⟨⟨h1, h2, fun hp => ?_⟩, fun ad e hp => ⟨(h4 ad e hp).1, Nat.lt_of_lt_of_le (h4 ad e hp).2 hk.size⟩⟩
  obtain ⟨ad, e, hc⟩ := h3 hp
  refine ⟨ad, e, fun j p hj => ?_⟩
  obtain ⟨c, hs, hr, hcell⟩ := hc j p hj
  refine ⟨c, hs, ?_, fun i u hu => ?_⟩
  · obtain ⟨_, _, rfl, rfl, ⟨_, _, rfl, rfl, rfl⟩⟩ := hr
    exact ⟨[.int .i64 p.1], [.int .i64 p.2.1, .int .i64 p.2.2], rfl, rfl, ⟨[.int .i64 p.2.1], [.int .i64 p.2.2], rfl, rfl, rfl⟩⟩
  · have e2 : w1.cell? (ad.add (j * kdi.sz + i)) = w.cell? (ad.add (j * kdi.sz + i)) := by
      unfold World.cell?
      rw [Dc2.add_block, hk.block _ (h4 ad e hp).2 (h4 ad e hp).1]
    exact e2.trans (hcell i u hu)
theorem info3 : (Try.prog.info? 3).map (fun i => (i.zero, i.size, i.bytes)) = some (some (.int .i64 0), 1, 8) := by kernel_rfl
theorem und50 : Try.prog.underlying 50 = some (.slice 3) := Try.underlying50
theorem app1 {ops : Array Oper} {rest : List Oper} {o : Oper} {a : Act} {Q : Exit → Act → World → Prop} {W : World} (base : Nat) (hgd : o.guard = none) (s x : Operand) (ho : o.op = .call { callee := .builtin .append, args := #[s, x], argTypes := #[50, 50] }) (v : Value) (xs : List Int) (p : Int) (hs : a.eval s = v) (hx : a.eval x = .slice (some ⟨W.heap.size, 0, none⟩) 1 1)
    (HO : Kd.R (Kd.int .i64) 3 W base (fun _ => True) v xs) (hbase : base ≤ W.heap.size) (hl : xs.length ≤ 1000000)
    (h : ∀ v1 w1, Kd.R (Kd.int .i64) 3 w1 base (fun _ => True) v1 (xs ++ [p]) → W.grownBy w1 v.ownBlock → wpList Try.prog ops Q rest (a.put o.dst v1) w1) :
    wpList Try.prog ops Q (o :: rest) a (W.alloc (.cells #[.int .i64 p] 3)) :=
  Kd.R_append (Kd.int .i64) (w0 := W) base hgd s x 50 3 (.int .i64 0) 8 ho und50 info3 rfl (by decide) (by omega) v xs p [.int .i64 p] (fun _ => True) (fun _ => False) hs hx rfl (fun _ hk => hk.elim) (fun _ _ => trivial) HO (Below.mk rfl rfl rfl (Nat.le_refl _) (fun _ _ => rfl)) hbase (by omega) (fun v1 w1 h1 _ h3 h4 => h v1 w1 h1 h3)
theorem R_wk {w0 w w1 : World} {g : Nat} {v : Value} {xs : List Int} (h : Kd.R (Kd.int .i64) 3 w w0.heap.size (fun _ => True) v xs) (hg : g < w0.heap.size) (hk : WK w w1 g) : Kd.R (Kd.int .i64) 3 w1 w0.heap.size (fun _ => True) v xs :=
  Kd.R_mono (Kd.R_step (Kd.R_bound h) (fun k hk1 hlt => hk.block k hlt (by have := hk1.2.1; omega))) (fun _ _ => trivial)
theorem R_RA {w0 w : World} {g : Nat} {A : Option Addr} {n c : Nat} {xs : List Int} (h : Kd.R (Kd.int .i64) 3 w w0.heap.size (fun _ => True) (.slice A n c) xs) (hg : g < w0.heap.size) : RA w g A xs ∧ n = xs.length := by
  obtain ⟨h1, h2, h3⟩ := Kd.R_reads' h
  refine ⟨⟨h3, fun ad e hp => ?_⟩, h1⟩
  subst e
  have hb := Kd.R_base h ad.block rfl
  have hl := Kd.R_lt h ad.block rfl
  exact ⟨by omega, hl⟩
theorem WK.grown {w w1 w2 : World} {g : Nat} {row : Option Nat} (h : WK w w1 g) (hg : w1.grownBy w2 row) (hr : ∀ k, row = some k → w.heap.size ≤ k) : WK w w2 g :=
  ⟨hg.os.trans h.os, hg.tape.trans h.tape, hg.output.trans h.output, Nat.le_trans h.size hg.size, fun i hi hn => (hg.block i (Nat.lt_of_lt_of_le hi h.size) (fun e => by have := hr i e.symm; omega)).trans (h.block i hi hn)⟩
theorem blk_row {w1 w2 : World} {g : Nat} {o : Obj} {row : Option Nat} (h : w1.heap[g]? = some o) (hg : w1.grownBy w2 row) (hr : row ≠ some g) : w2.heap[g]? = some o := (hg.block g (blk_lt h) (fun e => hr e.symm)).trans h
/-- The number of a change. -/
def chg (k m : Int) : Int := k * 2048 + m % 1440
abbrev St := ByteArray × List Int
/-- A change at minute m; b: it is not the timeline's first one. -/
def ev (m : Int) (b : Bool) (k : Int) (st : St) : St := if m % 1440 = 0 ∧ b = true then (dayB st.1 st.2, [chg k m]) else (st.1, st.2 ++ [chg k m])
def inn : Nat → Int → Int → Int → Bool → Int → St → St
  | 0, _, _, _, _, _, st => st
  | d + 1, k, f, t, b, m, st => if m < t then inn d k f t b ((m / 1440 + 1) * 1440) (ev m (b || decide (m > f)) k st) else st
def dys : List It → Bool → St → St
  | [], _, st => st
  | r :: t, b, st => dys t true (inn 28 r.1 r.2.1 r.2.2 b r.2.1 st)
def phi (st : St) : Nat := st.1.size + 2 * st.2.length
theorem ev_phi (m : Int) (b : Bool) (k : Int) (st : St) : phi (ev m b k st) ≤ phi st + 4 := by
  unfold ev phi
  split
  · simp only [dayB_size, List.length_singleton]
    omega
  · simp only [List.length_append, List.length_singleton]
    omega
theorem ev_len (m : Int) (b : Bool) (k : Int) (st : St) : (ev m b k st).2.length ≤ st.2.length + 1 := by
  unfold ev
  split <;> simp
abbrev Nums (xs : List Int) : Prop := ∀ x ∈ xs, 0 ≤ x ∧ x ≤ 65535
theorem chg_num {k m : Int} (h0 : 0 ≤ k) (h1 : k ≤ 3) : 0 ≤ chg k m ∧ chg k m ≤ 65535 := by
  unfold chg
  omega
theorem ev_nums {m : Int} {b : Bool} {k : Int} {st : St} (h0 : 0 ≤ k) (h1 : k ≤ 3) (h : Nums st.2) : Nums (ev m b k st).2 := by
  unfold ev
  split
  · intro x hx
    rw [List.mem_singleton] at hx
    subst hx
    exact chg_num h0 h1
  · intro x hx
    rcases List.mem_append.1 hx with hx | hx
    · exact h x hx
    · rw [List.mem_singleton] at hx
      subst hx
      exact chg_num h0 h1
theorem ev_y {m : Int} {b : Bool} {k : Int} {st : St} (h : m % 1440 = 0) (hb : b = true) : ev m b k st = (dayB st.1 st.2, [chg k m]) := by
  unfold ev
  rw [if_pos ⟨h, hb⟩]
theorem ev_n {m : Int} {b : Bool} {k : Int} {st : St} (h : ¬ (m % 1440 = 0 ∧ b = true)) : ev m b k st = (st.1, st.2 ++ [chg k m]) := by
  unfold ev
  rw [if_neg h]
theorem or11 {k m : Int} (hk0 : 0 ≤ k) (hk1 : k ≤ 3) (hm0 : 0 ≤ m) : Go.bits .or .i64 (wrap64 (k * 2048)) (Int.tmod m 1440) = chg k m := by
  have h1 : wrap64 (k * 2048) = k * 2048 := by unfold wrap64; omega
  have h2 : Int.tmod m 1440 = m % 1440 := Int.tmod_eq_emod_of_nonneg hm0
  rw [h1, h2]
  unfold chg
  exact bits_join .i64 16 (by decide) (fun n h0 h1 => by rw [IntKind.wrap_i64]; omega) 11 (k * 2048) (m % 1440) (by omega) (by omega) (by omega) (by omega) (by omega) (by omega)
theorem R_not {w : World} {base : Nat} {v : Value} {xs : List Int} {g : Nat} (h : Kd.R (Kd.int .i64) 3 w base (fun _ => True) v xs) (hn : ∀ k, v.ownBlock = some k → k ≠ g) : Kd.R (Kd.int .i64) 3 w base (fun k => k ≠ g) v xs := by
  obtain ⟨h0, inner, ho, hr⟩ := h
  exact ⟨hn, inner, ho, hr.imp_ (fun _ _ hp => hp)⟩
theorem F_row {w : World} {g7 g g6 : Nat} {t : Nat} {old : Array Value} (h : IsF w g7 g) (hb : w.heap[g6]? = some (.cells old t (0, 0))) (ht : t ≠ 46) (cs : Array Value) : IsF (w.setRow g6 cs) g7 g :=
  ⟨(setRow_other _ _ _ _ (blk_ne h.1 hb (fun e => ht e.symm))).trans h.1, h.2⟩
theorem W_row {w : World} {g g6 : Nat} {t : Nat} {old : Array Value} {out : ByteArray} (h : IsW w g out) (hb : w.heap[g6]? = some (.cells old t (0, 0))) (ht : t ≠ 45) (cs : Array Value) : IsW (w.setRow g6 cs) g out :=
  (setRow_other _ _ _ _ (blk_ne h hb (fun e => ht e.symm))).trans h
theorem K_row {w w1 : World} {g g6 : Nat} (h : WK w w1 g) (hg : w.heap.size ≤ g6) (cs : Array Value) : WK w (w1.setRow g6 cs) g :=
  ⟨h.os, h.tape, h.output, by simpa [World.setRow] using h.size, fun i hi hn => (setRow_other _ _ _ _ (by omega)).trans (h.block i hi hn)⟩
theorem RC_row {w0 w : World} {g g6 : Nat} {A : Option Addr} {xs : List It} (h : RC w g A xs) (h0 : RC w0 g A xs) (hg : w0.heap.size ≤ g6) (cs : Array Value) : RC (w.setRow g6 cs) g A xs := by
  obtain ⟨⟨h1, h2, h3⟩, h4⟩ := h
  refine ⟨⟨h1, h2, fun hp => ?_⟩, fun ad e hp => ⟨(h4 ad e hp).1, by simpa [World.setRow] using (h4 ad e hp).2⟩⟩
  obtain ⟨ad, e, hc⟩ := h3 hp
  refine ⟨ad, e, fun j p hj => ?_⟩
  obtain ⟨c, hs, hr, hcell⟩ := hc j p hj
  refine ⟨c, hs, ?_, fun i u hu => ?_⟩
  · obtain ⟨_, _, rfl, rfl, ⟨_, _, rfl, rfl, rfl⟩⟩ := hr
    exact ⟨[.int .i64 p.1], [.int .i64 p.2.1, .int .i64 p.2.2], rfl, rfl, ⟨[.int .i64 p.2.1], [.int .i64 p.2.2], rfl, rfl, rfl⟩⟩
  · have e2 : (w.setRow g6 cs).cell? (ad.add (j * kdi.sz + i)) = w.cell? (ad.add (j * kdi.sz + i)) := by
      unfold World.cell?
      rw [Dc2.add_block, setRow_other _ _ _ _ (by have := (h0.2 ad e hp).2; omega)]
    exact e2.trans (hcell i u hu)
theorem RC_grown {w0 w w1 : World} {g : Nat} {row : Option Nat} {A : Option Addr} {xs : List It} (h : RC w g A xs) (hg : w.grownBy w1 row) (hr : ∀ k, row = some k → w0.heap.size ≤ k ∧ RC w0 g A xs) : RC w1 g A xs := by
  obtain ⟨⟨h1, h2, h3⟩, h4⟩ := h
  refine ⟨⟨h1, h2, fun hp => ?_⟩, fun ad e hp => ⟨(h4 ad e hp).1, Nat.lt_of_lt_of_le (h4 ad e hp).2 hg.size⟩⟩
  obtain ⟨ad, e, hc⟩ := h3 hp
  refine ⟨ad, e, fun j p hj => ?_⟩
  obtain ⟨c, hs, hr1, hcell⟩ := hc j p hj
  refine ⟨c, hs, ?_, fun i u hu => ?_⟩
  · obtain ⟨_, _, rfl, rfl, ⟨_, _, rfl, rfl, rfl⟩⟩ := hr1
    exact ⟨[.int .i64 p.1], [.int .i64 p.2.1, .int .i64 p.2.2], rfl, rfl, ⟨[.int .i64 p.2.1], [.int .i64 p.2.2], rfl, rfl, rfl⟩⟩
  · have e2 : w1.cell? (ad.add (j * kdi.sz + i)) = w.cell? (ad.add (j * kdi.sz + i)) := by
      unfold World.cell?
      rw [Dc2.add_block, hg.block _ (h4 ad e hp).2 (fun e3 => by have h5 := hr _ e3.symm; have := (h5.2.2 ad e hp).2; omega)]
    exact e2.trans (hcell i u hu)
set_option maxHeartbeats 8000000 in
set_option maxRecDepth 100000 in
theorem days_ (g g7 : Nat) (out : ByteArray) (A : Option Addr) (c : Nat) (l : List It) (hl : l.length ≤ 2000) (hv : ∀ r ∈ l, (0 ≤ r.1 ∧ r.1 ≤ 3) ∧ 0 ≤ r.2.1 ∧ r.2.1 ≤ 40320 ∧ r.2.2 ≤ 40320) (hs : out.size ≤ 1000) (w : World) (hW : IsW w g out) (hF : IsF w g7 g) (hR : RC w g A l) : Calls Try.prog 17 #[.slice A l.length c, .func (.func 18) #[] #[.pointer (some ⟨g7, 0, none⟩)]] w fun e w' => e = .returned (.tuple #[]) ∧ IsW w' g (dayB (dys l false (out, [])).1 (dys l false (out, [])).2) ∧ WK w w' g := by
  obtain ⟨R, hRR⟩ : ∃ R, dys l false (out, []) = R := ⟨_, rfl⟩
  rw [hRR]
  have HL := Aside0.mk hl
  have HV := Aside0.mk hv
  have HW := Aside0.mk hW
  have HF := Aside0.mk hF
  have HC := Aside0.mk hR
  have HC0 := Aside0.mk hR
  have HK := Aside0.mk (WK.refl w g)
  have HGL := Aside0.mk (blk_lt hW)
  have HRR := Aside0.mk hRR
  have HS := Aside0.mk hs
  clear hl hv hs hW hF hR hRR
  go_enter Try.func17, Try.ntmps17
  (try go_wp2)
  go_loopg [4, 10] l.length (fun kq v4 v10 w' => ∃ (i : Nat) (st : St), v10 = .int .i64 (i : Int) ∧ Aside0 (i ≤ l.length) ∧ Aside0 (l.length - i ≤ kq) ∧ Aside0 (dys (l.drop i) (decide (0 < i)) st = R) ∧ Aside0 (phi st ≤ 1000 + 112 * i ∧ st.2.length ≤ 28 * i) ∧ Aside0 (Nums st.2) ∧ Aside0 (IsW w' g st.1) ∧ Aside0 (WK w w' g) ∧ Aside0 (IsF w' g7 g) ∧ Aside0 (RC w' g A l) ∧ Aside0 (Kd.R (Kd.int .i64) 3 w' w.heap.size (fun _ => True) v4 st.2))
  case atStart => exact ⟨0, (out, []), rfl, ⟨Nat.zero_le _⟩, ⟨by omega⟩, ⟨by simpa using HRR.out⟩, ⟨⟨by have := HS.out; unfold phi; simp; omega, by simp⟩⟩, ⟨fun _ h => by simp at h⟩, HW, HK, HF, HC, ⟨Kd.R_nil _ _ _ _ _⟩⟩
  case round =>
    clear HW HK HF HC HRR HS
    obtain ⟨i, st, rfl, HI, HKQ, HRR, HPH, HNU, HW, HK, HF, HC, HO⟩ := hrel
    by_cases ci : i < l.length
    · obtain ⟨⟨rk, rf, rt⟩, hr⟩ : ∃ r, ri l i = r := ⟨_, rfl⟩
      have hri : ri l i = l[i] := by unfold ri; simp [ci]
      obtain ⟨ad, e, hx0, hx1, hx2⟩ := at_H HC.out.1 i ci
      rw [hr] at hx0 hx1 hx2
      dsimp only at hx0 hx1 hx2
      have HRK := Aside0.mk (show 0 ≤ rk ∧ rk ≤ 3 ∧ 0 ≤ rf ∧ rf ≤ 40320 ∧ rt ≤ 40320 by
        have h := HV.out l[i] (List.getElem_mem _)
        rw [← hri, hr] at h
        exact ⟨h.1.1, h.1.2, h.2.1, h.2.2.1, h.2.2.2⟩)
      obtain ⟨S2, hS2⟩ : ∃ S2, inn 28 rk rf rt (decide (0 < i)) rf st = S2 := ⟨_, rfl⟩
      have HRN := Aside0.mk (show dys (l.drop (i + 1)) (decide (0 < i + 1)) S2 = R by
        have h := HRR.out
        rw [List.drop_eq_getElem_cons ci, dys, ← hri, hr] at h
        dsimp only at h
        rw [hS2] at h
        rw [show decide (0 < i + 1) = true by simp]
        exact h)
      have HIN := Aside0.mk ci
      have HS2 := Aside0.mk hS2
      have HO0 := HO
      have HW2 := Aside0.mk (show wrap64 ((i : Int) + 1) = ((i + 1 : Nat) : Int) by have := HL.out; unfold wrap64; omega)
      have p1 : (0 ≤ (i : Int)) = True := eq_true (by omega)
      have p2 : ((i : Int) < (l.length : Int)) = True := eq_true (by omega)
      subst e
      clear ci hr hri hS2
      go_wp2_with (first | ((with_reducible refine gate_dst (N := 6) rfl ?_); refine box_event ?hg (N := 6) ?hd (cs := #[.int .i64 0, .int .i64 0, .int .i64 0]) (t := 48) ?hr ?_; (case hd => rfl); (case hg => rfl); (case hr => first | (go_simp; done) | (go_simp; rfl)); intro g6 hg_ wv hbox hb; have G6 := Aside0.mk (show w.heap.size ≤ g6 by rw [hg_]; exact HK.out.size); have BK := Aside0.mk hbox; replace HO := Aside0.mk (R_wk HO.out HGL.out (WK.of_below hb g)); replace HF := Aside0.mk (IsF.wk HF.out (WK.of_below hb g)); replace HC := Aside0.mk (RC.wk HC.out (WK.of_below hb g)); replace HW := Aside0.mk (show IsW wv g _ from blk_below HW.out hb); have N6 := Aside0.mk (show ∀ k, u4.ownBlock = some k → k ≠ g6 from fun k hk e => by have := Kd.R_lt HO0.out k hk; omega); replace HK := Aside0.mk (HK.out.trans (WK.of_below hb g)); clear hbox hg_ hb hx0 hx1 hx2 HO0) | ((with_reducible refine gate_store (t := 48) (p := 6) rfl ?_); refine wpList_store_row rfl 48 _ _ rfl g6 #[.int .i64 rk, .int .i64 rf, .int .i64 rt] rfl rfl 48 #[.int .i64 0, .int .i64 0, .int .i64 0] BK.out (by kernel_rfl) rfl (by simp [Value.oneCell']) ?_; replace HO := Aside0.mk (Kd.R_mono (Kd.R_step (R_not HO.out N6.out) (fun k hk _ => setRow_other wv g6 k #[.int .i64 rk, .int .i64 rf, .int .i64 rt] hk)) (fun _ _ => trivial)); replace HF := Aside0.mk (F_row HF.out BK.out (by decide) #[.int .i64 rk, .int .i64 rf, .int .i64 rt]); replace HW := Aside0.mk (W_row HW.out BK.out (by decide) #[.int .i64 rk, .int .i64 rf, .int .i64 rt]); replace HC := Aside0.mk (RC_row HC.out HC0.out G6.out #[.int .i64 rk, .int .i64 rf, .int .i64 rt]); replace HK := Aside0.mk (K_row HK.out G6.out #[.int .i64 rk, .int .i64 rf, .int .i64 rt]); replace BK := Aside0.mk (setRow_heap _ _ _ #[.int .i64 rk, .int .i64 rf, .int .i64 rt] _ _ BK.out); generalize wv.setRow g6 #[.int .i64 rk, .int .i64 rf, .int .i64 rt] = wv at HO HF HW HC HK BK ⊢; have hb0 : wv.cell? ⟨g6, 0, none⟩ = some (.int .i64 rk) := (blk_cell BK.out 0).trans rfl; have hb1 : wv.cell? ⟨g6, 1, none⟩ = some (.int .i64 rf) := (blk_cell BK.out 1).trans rfl; have hb2 : wv.cell? ⟨g6, 2, none⟩ = some (.int .i64 rt) := (blk_cell BK.out 2).trans rfl))
      clear N6 hb0 hb1 hb2
      have HMN := Aside0.mk (show 0 ≤ rf ∧ rf ≤ rf ∧ rf ≤ 43000 ∧ rt ≤ (rf / 1440 + 28) * 1440 by have := HRK.out; omega)
      go_loopg [4, 7] 28 (fun kq v4 v7 w' => ∃ (d : Nat) (m : Int) (st : St), v7 = .int .i64 m ∧ Aside0 (d ≤ kq) ∧ Aside0 (d ≤ 28) ∧ Aside0 (0 ≤ m ∧ rf ≤ m ∧ m ≤ 43000 ∧ rt ≤ (m / 1440 + d) * 1440) ∧ Aside0 (inn d rk rf rt (decide (0 < i)) m st = S2) ∧ Aside0 (phi st ≤ 1000 + 112 * i + 4 * (28 - d) ∧ st.2.length ≤ 28 * i + (28 - d)) ∧ Aside0 (Nums st.2) ∧ Aside0 (IsW w' g st.1) ∧ Aside0 (WK w w' g) ∧ Aside0 (IsF w' g7 g) ∧ Aside0 (RC w' g (some ad) l) ∧ Aside0 (w'.heap[g6]? = some (.cells #[.int .i64 rk, .int .i64 rf, .int .i64 rt] 48 (0, 0))) ∧ Aside0 (Kd.R (Kd.int .i64) 3 w' w.heap.size (fun _ => True) v4 st.2))
      case atStart => exact ⟨28, rf, st, rfl, ⟨Nat.le_refl _⟩, ⟨Nat.le_refl _⟩, HMN, HS2, ⟨by have := HPH.out; omega⟩, HNU, HW, HK, HF, HC, BK, HO⟩
      case round =>
        clear HW HK HF HC BK HO HPH HNU HMN HS2
        obtain ⟨d, m, st, rfl, HDQ, HD28, HMN, HS2, HPH, HNU, HW, HK, HF, HC, BK, HO⟩ := hrel
        obtain ⟨A4, n4, c4, e4⟩ : ∃ A4 n4 c4, u4 = Value.slice A4 n4 c4 := by obtain ⟨A4, c4, e4⟩ := Kd.R_slice HO.out; exact ⟨A4, _, c4, e4⟩
        obtain rfl : n4 = st.2.length := by have h := HO.out; rw [e4] at h; exact (R_RA h HGL.out).2
        subst e4
        have hb0 : wr.cell? ⟨g6, 0, none⟩ = some (.int .i64 rk) := (blk_cell BK.out 0).trans rfl
        have hb1 : wr.cell? ⟨g6, 1, none⟩ = some (.int .i64 rf) := (blk_cell BK.out 1).trans rfl
        have hb2 : wr.cell? ⟨g6, 2, none⟩ = some (.int .i64 rt) := (blk_cell BK.out 2).trans rfl
        by_cases cm : m < rt
        · obtain ⟨d, rfl⟩ : ∃ q, d = q + 1 := ⟨d - 1, by have := HMN.out; omega⟩
          have HRN2 := Aside0.mk (show inn d rk rf rt (decide (0 < i)) ((m / 1440 + 1) * 1440) (ev m (decide (0 < i) || decide (m > rf)) rk st) = S2 by
            have h := HS2.out
            rw [inn, if_pos cm] at h
            exact h)
          have HMW := Aside0.mk (show wrap64 (wrap64 (wrap64 (Int.tdiv m 1440) + 1) * 1440) = (m / 1440 + 1) * 1440 by
            have := HMN.out
            rw [Int.tdiv_eq_ediv_of_nonneg this.1]
            unfold wrap64
            omega)
          have hor := or11 (m := m) HRK.out.1 HRK.out.2.1 HMN.out.1
          have htm : Int.tmod m 1440 = m % 1440 := Int.tmod_eq_emod_of_nonneg HMN.out.1
          have HMN2 := Aside0.mk (show 0 ≤ (m / 1440 + 1) * 1440 ∧ rf ≤ (m / 1440 + 1) * 1440 ∧ (m / 1440 + 1) * 1440 ≤ 43000 ∧ rt ≤ ((m / 1440 + 1) * 1440 / 1440 + d) * 1440 by
            have := HMN.out
            have := HRK.out
            omega)
          have c1 : (m < rt) = True := eq_true cm
          have HCM := Aside0.mk cm
          by_cases em : m % 1440 = 0
          · have t1 : (Int.tmod m 1440 == 0) = true := by rw [htm, em]; rfl
            have hor0 : Go.bits .or .i64 (wrap64 (rk * 2048)) 0 = chg rk m := by rw [← hor, htm, em]
            clear htm
            by_cases hi : 0 < i
            · have i1 : ((i : Int) > 0) = True := eq_true (by omega)
              have i2 : (0 < i) = True := eq_true hi
              have i3 : (0 < (i : Int)) = True := eq_true (by omega)
              have HEV := Aside0.mk (show ev m (decide (0 < i) || decide (m > rf)) rk st = _ from ev_y em (by simp [hi]))
              clear em cm HS2
              go_wp2_with (first | (go_at_call 18; (with_reducible refine (clo_ g g7 st.1 A4 st.2.length c4 st.2 rfl HNU.out (by have := HL.out; have := HI.out; have := HPH.out; unfold phi at this; omega) (by have := HL.out; have := HI.out; have := HPH.out; unfold phi at this; omega) _ HW.out HF.out (R_RA HO.out HGL.out).1).mono ?_); rintro e wv ⟨rfl, hw, hk⟩; replace HK := Aside0.mk (HK.out.trans hk); replace HF := Aside0.mk (IsF.wk HF.out hk); replace HC := Aside0.mk (RC.wk HC.out hk); replace HW := Aside0.mk hw; replace BK := Aside0.mk (WK.blk hk BK.out (by have := G6.out; have := HGL.out; omega)); clear hw hk HO; have HO := Aside0.mk (Kd.R_nil (Kd.int .i64) 3 wv w.heap.size (fun _ => True)); clear hb0 hb1 hb2; have hb0 : wv.cell? ⟨g6, 0, none⟩ = some (.int .i64 rk) := (blk_cell BK.out 0).trans rfl; have hb1 : wv.cell? ⟨g6, 1, none⟩ = some (.int .i64 rf) := (blk_cell BK.out 1).trans rfl; have hb2 : wv.cell? ⟨g6, 2, none⟩ = some (.int .i64 rt) := (blk_cell BK.out 2).trans rfl) | ((with_reducible refine gate_builtin (b := .append) (xs := #[.tmp 41, .tmp 48]) rfl ?_); at_builtin; refine app1 w.heap.size rfl (.tmp 41) (.tmp 48) rfl (.slice none 0 0) [] (chg rk m) rfl rfl HO.out HK.out.size (by simp) ?_; intro v1 w1 ho hg; replace HF := Aside0.mk (show IsF w1 g7 g from ⟨blk_row HF.out.1 hg (fun e => Kd.R_ne HO.out HF.out.1 (by decide) e.symm), HF.out.2⟩); replace HW := Aside0.mk (show IsW w1 g _ from blk_row HW.out hg (fun e => Kd.R_ne HO.out HW.out (by decide) e.symm)); replace BK := Aside0.mk (blk_row BK.out hg (fun e => Kd.R_ne HO.out BK.out (by decide) e.symm)); replace HC := Aside0.mk (RC_grown HC.out hg (fun k e => ⟨Kd.R_base HO.out k e, HC0.out⟩)); replace HK := Aside0.mk (WK.grown HK.out hg (fun k e => Kd.R_base HO.out k e)); replace HO := Aside0.mk ho; clear ho hg hb0 hb1 hb2))
              go_roundg d
              case measure => have := HDQ.out; omega
              case rel => exact ⟨d, (m / 1440 + 1) * 1440, ev m (decide (0 < i) || decide (m > rf)) rk st, by first | rfl | rw [HMW.out], ⟨Nat.le_refl _⟩, ⟨by have := HD28.out; omega⟩, HMN2, HRN2, ⟨by have h1 := ev_phi m (decide (0 < i) || decide (m > rf)) rk st; have h2 := HPH.out; have h3 := HD28.out; have h4 := ev_len m (decide (0 < i) || decide (m > rf)) rk st; omega⟩, ⟨ev_nums HRK.out.1 HRK.out.2.1 HNU.out⟩, ⟨by rw [HEV.out]; exact HW.out⟩, HK, HF, HC, BK, ⟨by rw [HEV.out]; exact HO.out⟩⟩
            · by_cases hf : m > rf
              · have i1 : ((i : Int) > 0) = False := eq_false (by omega)
                have i2 : (0 < i) = False := eq_false hi
                have i3 : (0 < (i : Int)) = False := eq_false (by omega)
                have f1 : (m > rf) = True := eq_true hf
                have f2 : (rf < m) = True := eq_true hf
                have HEV := Aside0.mk (show ev m (decide (0 < i) || decide (m > rf)) rk st = _ from ev_y em (by simp [hf]))
                clear em cm HS2
                go_wp2_with (first | (go_at_call 18; (with_reducible refine (clo_ g g7 st.1 A4 st.2.length c4 st.2 rfl HNU.out (by have := HL.out; have := HI.out; have := HPH.out; unfold phi at this; omega) (by have := HL.out; have := HI.out; have := HPH.out; unfold phi at this; omega) _ HW.out HF.out (R_RA HO.out HGL.out).1).mono ?_); rintro e wv ⟨rfl, hw, hk⟩; replace HK := Aside0.mk (HK.out.trans hk); replace HF := Aside0.mk (IsF.wk HF.out hk); replace HC := Aside0.mk (RC.wk HC.out hk); replace HW := Aside0.mk hw; replace BK := Aside0.mk (WK.blk hk BK.out (by have := G6.out; have := HGL.out; omega)); clear hw hk HO; have HO := Aside0.mk (Kd.R_nil (Kd.int .i64) 3 wv w.heap.size (fun _ => True)); clear hb0 hb1 hb2; have hb0 : wv.cell? ⟨g6, 0, none⟩ = some (.int .i64 rk) := (blk_cell BK.out 0).trans rfl; have hb1 : wv.cell? ⟨g6, 1, none⟩ = some (.int .i64 rf) := (blk_cell BK.out 1).trans rfl; have hb2 : wv.cell? ⟨g6, 2, none⟩ = some (.int .i64 rt) := (blk_cell BK.out 2).trans rfl) | ((with_reducible refine gate_builtin (b := .append) (xs := #[.tmp 41, .tmp 48]) rfl ?_); at_builtin; refine app1 w.heap.size rfl (.tmp 41) (.tmp 48) rfl (.slice none 0 0) [] (chg rk m) rfl rfl HO.out HK.out.size (by simp) ?_; intro v1 w1 ho hg; replace HF := Aside0.mk (show IsF w1 g7 g from ⟨blk_row HF.out.1 hg (fun e => Kd.R_ne HO.out HF.out.1 (by decide) e.symm), HF.out.2⟩); replace HW := Aside0.mk (show IsW w1 g _ from blk_row HW.out hg (fun e => Kd.R_ne HO.out HW.out (by decide) e.symm)); replace BK := Aside0.mk (blk_row BK.out hg (fun e => Kd.R_ne HO.out BK.out (by decide) e.symm)); replace HC := Aside0.mk (RC_grown HC.out hg (fun k e => ⟨Kd.R_base HO.out k e, HC0.out⟩)); replace HK := Aside0.mk (WK.grown HK.out hg (fun k e => Kd.R_base HO.out k e)); replace HO := Aside0.mk ho; clear ho hg hb0 hb1 hb2))
                go_roundg d
                case measure => have := HDQ.out; omega
                case rel => exact ⟨d, (m / 1440 + 1) * 1440, ev m (decide (0 < i) || decide (m > rf)) rk st, by first | rfl | rw [HMW.out], ⟨Nat.le_refl _⟩, ⟨by have := HD28.out; omega⟩, HMN2, HRN2, ⟨by have h1 := ev_phi m (decide (0 < i) || decide (m > rf)) rk st; have h2 := HPH.out; have h3 := HD28.out; have h4 := ev_len m (decide (0 < i) || decide (m > rf)) rk st; omega⟩, ⟨ev_nums HRK.out.1 HRK.out.2.1 HNU.out⟩, ⟨by rw [HEV.out]; exact HW.out⟩, HK, HF, HC, BK, ⟨by rw [HEV.out]; exact HO.out⟩⟩
              · have i1 : ((i : Int) > 0) = False := eq_false (by omega)
                have i2 : (0 < i) = False := eq_false hi
                have i3 : (0 < (i : Int)) = False := eq_false (by omega)
                have f1 : (m > rf) = False := eq_false hf
                have f2 : (rf < m) = False := eq_false hf
                have HEV := Aside0.mk (show ev m (decide (0 < i) || decide (m > rf)) rk st = _ from ev_n (by simp [hi, hf]))
                clear em cm HS2
                go_wp2_with (first | ((with_reducible refine gate_builtin (b := .append) (xs := #[.tmp 41, .tmp 48]) rfl ?_); at_builtin; refine app1 w.heap.size rfl (.tmp 41) (.tmp 48) rfl (.slice A4 st.2.length c4) st.2 (chg rk m) rfl rfl HO.out HK.out.size (by have := HL.out; have := HI.out; have := HPH.out; unfold phi at this; omega) ?_; intro v1 w1 ho hg; replace HF := Aside0.mk (show IsF w1 g7 g from ⟨blk_row HF.out.1 hg (fun e => Kd.R_ne HO.out HF.out.1 (by decide) e.symm), HF.out.2⟩); replace HW := Aside0.mk (show IsW w1 g _ from blk_row HW.out hg (fun e => Kd.R_ne HO.out HW.out (by decide) e.symm)); replace BK := Aside0.mk (blk_row BK.out hg (fun e => Kd.R_ne HO.out BK.out (by decide) e.symm)); replace HC := Aside0.mk (RC_grown HC.out hg (fun k e => ⟨Kd.R_base HO.out k e, HC0.out⟩)); replace HK := Aside0.mk (WK.grown HK.out hg (fun k e => Kd.R_base HO.out k e)); replace HO := Aside0.mk ho; clear ho hg hb0 hb1 hb2))
                go_roundg d
                case measure => have := HDQ.out; omega
                case rel => exact ⟨d, (m / 1440 + 1) * 1440, ev m (decide (0 < i) || decide (m > rf)) rk st, by first | rfl | rw [HMW.out], ⟨Nat.le_refl _⟩, ⟨by have := HD28.out; omega⟩, HMN2, HRN2, ⟨by have h1 := ev_phi m (decide (0 < i) || decide (m > rf)) rk st; have h2 := HPH.out; have h3 := HD28.out; have h4 := ev_len m (decide (0 < i) || decide (m > rf)) rk st; omega⟩, ⟨ev_nums HRK.out.1 HRK.out.2.1 HNU.out⟩, ⟨by rw [HEV.out]; exact HW.out⟩, HK, HF, HC, BK, ⟨by rw [HEV.out]; exact HO.out⟩⟩
          · have t1 : (Int.tmod m 1440 == 0) = false := by rw [htm]; exact beq_eq_false_iff_ne.mpr em
            have t2 : (Int.tmod m 1440 = 0) = False := eq_false (by rw [htm]; exact em)
            clear htm
            have HEV := Aside0.mk (show ev m (decide (0 < i) || decide (m > rf)) rk st = _ from ev_n (fun h => em h.1))
            clear em cm HS2
            go_wp2_with (first | ((with_reducible refine gate_builtin (b := .append) (xs := #[.tmp 41, .tmp 48]) rfl ?_); at_builtin; refine app1 w.heap.size rfl (.tmp 41) (.tmp 48) rfl (.slice A4 st.2.length c4) st.2 (chg rk m) rfl rfl HO.out HK.out.size (by have := HL.out; have := HI.out; have := HPH.out; unfold phi at this; omega) ?_; intro v1 w1 ho hg; replace HF := Aside0.mk (show IsF w1 g7 g from ⟨blk_row HF.out.1 hg (fun e => Kd.R_ne HO.out HF.out.1 (by decide) e.symm), HF.out.2⟩); replace HW := Aside0.mk (show IsW w1 g _ from blk_row HW.out hg (fun e => Kd.R_ne HO.out HW.out (by decide) e.symm)); replace BK := Aside0.mk (blk_row BK.out hg (fun e => Kd.R_ne HO.out BK.out (by decide) e.symm)); replace HC := Aside0.mk (RC_grown HC.out hg (fun k e => ⟨Kd.R_base HO.out k e, HC0.out⟩)); replace HK := Aside0.mk (WK.grown HK.out hg (fun k e => Kd.R_base HO.out k e)); replace HO := Aside0.mk ho; clear ho hg hb0 hb1 hb2))
            go_roundg d
            case measure => have := HDQ.out; omega
            case rel => exact ⟨d, (m / 1440 + 1) * 1440, ev m (decide (0 < i) || decide (m > rf)) rk st, by first | rfl | rw [HMW.out], ⟨Nat.le_refl _⟩, ⟨by have := HD28.out; omega⟩, HMN2, HRN2, ⟨by have h1 := ev_phi m (decide (0 < i) || decide (m > rf)) rk st; have h2 := HPH.out; have h3 := HD28.out; have h4 := ev_len m (decide (0 < i) || decide (m > rf)) rk st; omega⟩, ⟨ev_nums HRK.out.1 HRK.out.2.1 HNU.out⟩, ⟨by rw [HEV.out]; exact HW.out⟩, HK, HF, HC, BK, ⟨by rw [HEV.out]; exact HO.out⟩⟩
        · have c1 : (m < rt) = False := eq_false cm
          have hs2 : st = S2 := by
            have h := HS2.out
            cases d with
            | zero => exact h
            | succ d => rw [inn, if_neg cm] at h; exact h
          subst hs2
          clear cm
          go_wp2
          go_roundg (l.length - (i + 1))
          case measure => have := HKQ.out; have := HIN.out; omega
          case rel => exact ⟨i + 1, st, by first | rfl | rw [HW2.out], ⟨by have := HIN.out; omega⟩, ⟨by omega⟩, HRN, ⟨by have := HPH.out; omega⟩, HNU, HW, HK, HF, HC, HO⟩
    · obtain rfl : i = l.length := by have := HI.out; omega
      have hrr := HRR.out
      rw [List.drop_length, dys] at hrr
      subst hrr
      obtain ⟨A4, n4, c4, e4⟩ : ∃ A4 n4 c4, u4 = Value.slice A4 n4 c4 := by obtain ⟨A4, c4, e4⟩ := Kd.R_slice HO.out; exact ⟨A4, _, c4, e4⟩
      obtain rfl : n4 = st.2.length := by have h := HO.out; rw [e4] at h; exact (R_RA h HGL.out).2
      subst e4
      clear ci
      go_wp2_with (go_at_call 18; (with_reducible refine (clo_ g g7 st.1 A4 st.2.length c4 st.2 rfl HNU.out (by have := HL.out; have := HI.out; have := HPH.out; unfold phi at this; omega) (by have := HL.out; have := HI.out; have := HPH.out; unfold phi at this; omega) _ HW.out HF.out (R_RA HO.out HGL.out).1).mono ?_); rintro e wv ⟨rfl, hw, hk⟩; have HWZ := Aside0.mk hw; replace HK := Aside0.mk (HK.out.trans hk); clear hw hk)
      (try refine bodyPost_end (results_none rfl _ _ _) rfl ?_)
      exact ⟨rfl, HWZ.out, HK.out⟩
end Go.Proofs.Ytjpnfhnmcgejhaa.Dc3
