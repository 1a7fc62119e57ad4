/- slices.Grow of nil and slices.Concat at rows of whole numbers. -/
import Derived.Test.YtcofibbgdnbejaaMv6
namespace Go.Proofs.Ytcofibbgdnbejaa.Cat
open Go.RowKit Go.Proofs.YtcofibbgdnbejaaW.PrintWords Go.Proofs.YtcofibbgdnbejaaW.PrintLast Go.Proofs.YtcofibbgdnbejaaW.PrintMore Go.Proofs.Ytcofibbgdnbejaa.Ints Go.Proofs.Ytcofibbgdnbejaa.Mv1 Go.Proofs.Ytcofibbgdnbejaa.Mv2 Go.Proofs.Ytcofibbgdnbejaa.Mv3
attribute [local go_sem] max2_int min2_int max_two min_two max_three min_three max_four min_four
set_option linter.unusedVariables false
set_option linter.unusedSimpArgs false
set_option maxHeartbeats 8000000 in
set_option maxRecDepth 100000 in
theorem grow (m : Nat) (hm : m < 17592186044416) (w : World) : Calls Try.prog 49 #[.slice none 0 0, .int .i64 (m : Int)] w fun e w' => ∃ v, e = .returned v ∧ w'.ownsRow w.heap.size 3 1 v 0 [] ∧ Below w.heap.size w w' := by
  rcases Nat.eq_zero_or_pos m with h0 | h0
  · subst h0
    go_enter Try.func49, Try.ntmps49
    go_wp2
    go_ret
    exact ⟨_, rfl, World.ownsRow_nil w _ _ _, Below.refl _ _⟩
  · obtain ⟨i0, hi, hzz⟩ := Option.map_eq_some_iff.1 Ints.info3
    simp only [Prod.mk.injEq] at hzz
    obtain ⟨hz0, hz1, hz2⟩ := hzz
    have hr : ∀ ty, (Builtin.append_ #[33, 3] ty #[.slice none 0 0, .int .i64 (m : Int)]).run Try.prog w = .ok (.slice (some ⟨w.heap.size, 0, none⟩) m (grownCap w m 0 3)) (w.drew.alloc (.cells (Builtin.zeroCells (Value.int .i64 0).cells m ++ Builtin.zeroCells (Value.int .i64 0).cells (grownCap w m 0 3 - m)) 3)) := fun ty =>
      Go.Lib.run_append_nil_zeros w 33 3 ty 3 i0 _ .i64 .i64 Try.underlying33 Try.underlying3 hi hz0 m h0 (by omega) (by omega) (by rw [hz2]; omega)
    have hGn : m ≤ grownCap w m 0 3 := grownCap_ge w _ _ _
    have hG63 : grownCap w m 0 3 ≤ maxLen := grownCap_le_maxLen w m 0 3 (by unfold maxLen; omega)
    generalize hG : grownCap w m 0 3 = G at hr hGn hG63
    have hGi : (G : Int) ≤ 9223372036854775807 := by unfold maxLen at hG63; omega
    generalize hZ : (Builtin.zeroCells (Value.int .i64 0).cells m ++ Builtin.zeroCells (Value.int .i64 0).cells (G - m)) = Z at hr
    have hZs : Z.size = G * 1 := by
      rw [← hZ]
      simp [size_zeroCells, Value.cells]
      omega
    have h1 : ((m : Int) < 0) = False := eq_false (by omega)
    have h2 : wrap64 ((0 : Int) - 0) = 0 := by unfold wrap64; omega
    have h3 : wrap64 ((m : Int) - 0) = m := by unfold wrap64; omega
    have h4 : ((m : Int) > 0) = True := eq_true (by omega)
    have h4b : ((0 : Int) < m) = True := eq_true (by omega)
    clear hZ hG hi hz0 hz1 hz2
    have HZS := Aside0.mk hZs
    have HG1 := Aside0.mk hGn
    have HG2 := Aside0.mk hG63
    have h5 : (0 < m) = True := eq_true h0
    clear hZs h0
    go_enter Try.func49, Try.ntmps49
    go_wp2_with (at_builtin; refine Go.Lib.wpList_append_run _ rfl _ _ _ _ rfl _ _ rfl rfl _ _ (hr _) ?_)
    go_ret
    refine ⟨_, rfl, ⟨by simp, .inr ⟨w.heap.size, G, Z, rfl, Nat.le_refl _, heap_alloc_new w.drew _, Nat.zero_le _, HG2.out, HZS.out, by simp⟩⟩, ?_⟩
    exact ⟨rfl, rfl, rfl, by simp, fun k hk => Below.heap_alloc w.drew _ k hk⟩
theorem take_succ {α : Type} (l : List (List α)) (i : Nat) (h : i < l.length) : (l.take (i + 1)).flatten = (l.take i).flatten ++ l.getD i [] := by
  rw [List.take_succ_eq_append_getElem h, List.flatten_append]
  simp [h]
theorem take_le {α : Type} (l : List (List α)) (i : Nat) : (l.take i).flatten.length ≤ l.flatten.length := by
  have h := congrArg (fun z => z.flatten.length) (List.take_append_drop i l)
  simp only [List.flatten_append, List.length_append] at h
  omega
set_option maxHeartbeats 8000000 in
set_option maxRecDepth 100000 in
theorem concat (g2 c0 : Nat) (sv : Nat → Option Addr × Nat) (l0 : List (List Int)) (w : World) (hr0 : ∀ j, j < l0.length → w.cell? ⟨g2, j, none⟩ = some (.slice (sv j).1 (l0.getD j []).length (sv j).2) ∧ CI w (sv j).1 (l0.getD j [])) (hL : l0.flatten.length < 17592186044416) (hml : l0.length ≤ 1000) :
    Calls Try.prog 41 #[.slice (some ⟨g2, 0, none⟩) l0.length c0] w fun e w' => ∃ v0_ : Value, e = .returned (v0_) ∧ RI w' w.heap.size (fun _ => True) v0_ l0.flatten ∧ Below w.heap.size w w' := by
  have HR0 := Aside0.mk hr0
  have HL := Aside0.mk hL
  have HM := Aside0.mk (show l0.length ≤ maxLen by unfold maxLen; omega)
  clear hr0 hL hml
  have HB := Aside0.mk (Below.refl w.heap.size w)
  obtain ⟨n0, hn0⟩ : ∃ n0 : Nat, n0 = l0.length := ⟨_, rfl⟩
  have HN := Aside0.mk hn0
  rw [← hn0]
  clear hn0
  go_enter Try.func41, Try.ntmps41
  go_wp2
  repeat (go_quiet (fail); try go_wp2)
  go_loopg [3, 11] n0 (fun kq v3 v11 w' => ∃ i : Nat, v3 = .int .i64 ((l0.take i).flatten.length : Int) ∧ v11 = .int .i64 (i : Int) ∧ Aside0 (i ≤ n0) ∧ Aside0 (n0 - i ≤ kq) ∧ Aside0 (w' = w))
  case atStart => exact ⟨0, by simp, rfl, ⟨by omega⟩, ⟨by omega⟩, ⟨rfl⟩⟩
  case round =>
    obtain ⟨i, rfl, rfl, HI, HG, HW⟩ := hrel
    by_cases c1 : (i : Int) < (n0 : Int)
    · have p1 : 0 ≤ (i : Int) := by omega
      have ht := take_succ l0 i (by have := HN.out; omega)
      have htl := take_le l0 (i + 1)
      rw [ht, List.length_append] at htl
      obtain ⟨hx1, hC1⟩ := HR0.out i (by have := HN.out; omega)
      obtain ⟨⟨A1, c1'⟩, hsv⟩ : ∃ z, sv i = z := ⟨_, rfl⟩
      rw [hsv] at hx1 hC1
      simp only at hx1 hC1
      have hw1 : wrap64 (((l0.take i).flatten.length : Int) + ((l0.getD i []).length : Int)) = ((l0.take (i + 1)).flatten.length : Int) := by
        rw [ht, List.length_append]
        have := HL.out
        unfold wrap64
        omega
      have hw2 : wrap64 ((i : Int) + 1) = ((i + 1 : Nat) : Int) := by
        have := HM.out
        have := HN.out
        unfold wrap64
        unfold maxLen at *
        omega
      have hn1 : (((l0.take (i + 1)).flatten.length : Int) < 0) = False := eq_false (by omega)
      have HIN := Aside0.mk (show i < n0 by omega)
      replace p1 := eq_true p1
      replace c1 := eq_true c1
      obtain rfl := HW.out
      generalize hla : ((l0.take i).flatten.length : Int) = la at *
      generalize hlb : ((l0.take (i + 1)).flatten.length : Int) = lb at *
      generalize hlc : ((i + 1 : Nat) : Int) = ic at *
      generalize hld : (l0.getD i []).length = ld at *
      clear ht htl hla hld hC1 hsv
      have HLB := Aside0.mk hlb
      have HLC := Aside0.mk hlc
      clear hlb hlc
      go_wp2
      go_roundg (n0 - (i + 1))
      case measure => have := HIN.out; have := HG.out; omega
      case rel => exact ⟨i + 1, by rw [HLB.out], by rw [HLC.out], ⟨by have := HIN.out; omega⟩, ⟨by omega⟩, ⟨rfl⟩⟩
    · obtain rfl : i = n0 := by have := HI.out; omega
      replace c1 := eq_false c1
      have ht0 : l0.take i = l0 := by rw [List.take_of_length_le (by have := HN.out; omega)]
      rw [ht0]
      rw [HW.out]
      have HGRW := Aside0.mk (grow l0.flatten.length (by have := HL.out; omega) w)
      obtain ⟨lf, hlf⟩ : ∃ lf, lf = l0.flatten.length := ⟨_, rfl⟩
      rw [← hlf] at HGRW ⊢
      have HLF := Aside0.mk hlf
      clear hlf ht0 HG HI HW
      go_wp2_with (go_at_call 49; (with_reducible refine HGRW.out.mono ?_); rintro e wv ⟨vg, rfl, ho, hb⟩; have HO := Aside0.mk ho; replace HB := Aside0.mk (below_step HB.out hb); clear ho hb HGRW)
      repeat (go_quiet (fail); try go_wp2)
      go_loopg [6, 27] i (fun kq v6 v27 w1 => ∃ j : Nat, v27 = .int .i64 (j : Int) ∧ Aside0 (j ≤ i) ∧ Aside0 (i - j ≤ kq) ∧ Aside0 (w1.ownsRow w.heap.size 3 1 v6 (l0.take j).flatten.length (es (l0.take j).flatten)) ∧ Aside0 (Below w.heap.size w w1))
      case atStart => exact ⟨0, rfl, ⟨by omega⟩, ⟨by omega⟩, ⟨by simpa [es, encs] using HO.out⟩, HB⟩
      case round =>
        clear HB HO
        obtain ⟨j, rfl, HJ, HG, HO, HB⟩ := hrel
        by_cases c1 : (j : Int) < (i : Int)
        · have p1 : 0 ≤ (j : Int) := by omega
          have HJN := Aside0.mk (show j < i by omega)
          have hjl : j < l0.length := by have := HN.out; omega
          have ht := take_succ l0 j hjl
          have htl := take_le l0 (j + 1)
          obtain ⟨hx1, hC1⟩ := HR0.out j (by have := HN.out; omega)
          obtain ⟨⟨A1, c1'⟩, hsv⟩ : ∃ z, sv j = z := ⟨_, rfl⟩
          rw [hsv] at hx1 hC1
          simp only at hx1 hC1
          replace hx1 := (HB.out.cell (World.block_lt_of_cell? w _ hx1)).trans hx1
          have HC1 := Aside0.mk (Kd.C_below hC1 HB.out)
          have hw2 : wrap64 ((j : Int) + 1) = ((j + 1 : Nat) : Int) := by
            have := HM.out
            have := HN.out
            unfold wrap64
            unfold maxLen at *
            omega
          have HT := Aside0.mk ht
          have HTB := Aside0.mk (show ((l0.take j).flatten.length + (l0.getD j []).length) * 8 ≤ 140737488355328 by
            rw [ht, List.length_append] at htl
            have := HL.out
            omega)
          replace p1 := eq_true p1
          replace c1 := eq_true c1
          generalize hla : l0.getD j [] = la at *
          generalize hlc : ((j + 1 : Nat) : Int) = ic at *
          clear ht htl hla hjl hC1 hsv
          have HLC := Aside0.mk hlc
          clear hlc
          have hbs := below_size HB.out
          have HBS := Aside0.mk hbs
          have HW2 := Aside0.mk hw2
          clear hbs
          go_wp2_with (at_builtin; refine Ints.app w.heap.size rfl _ _ 33 3 (.int .i64 0) 1 8 rfl Try.underlying33 Ints.info3 rfl (by decide) (by decide) _ _ _ (es la) A1 la.length c1' rfl rfl HO.out (by rw [es_len]; omega) (C_es HC1.out) (es_one la) HB.out HBS.out HTB.out ?_; intro v1 w1 ho1 hb1 _; have HO1 := Aside0.mk ho1; have HB1 := Aside0.mk hb1; clear ho1 hb1)
          go_roundg (i - (j + 1))
          case measure => have := HJN.out; have := HG.out; omega
          case rel => exact ⟨j + 1, by first | (rw [HLC.out]; done) | (rw [HLC.out, HW2.out]; done), ⟨by have := HJN.out; omega⟩, ⟨by omega⟩, ⟨by rw [HT.out, List.length_append, es_app]; exact HO1.out⟩, HB1⟩
        · obtain rfl : j = i := by have := HJ.out; omega
          replace c1 := eq_false c1
          have ht0 : l0.take j = l0 := by rw [List.take_of_length_le (by have := HN.out; omega)]
          rw [ht0] at HO
          have HK := Aside0.mk (RI_of HO.out rfl)
          clear ht0 HO
          go_wp2
          repeat (go_quiet (fail); try go_wp2)
          go_ret
          exact ⟨_, rfl, HK.out, HB.out⟩
end Go.Proofs.Ytcofibbgdnbejaa.Cat
