/- Written by a program of this session: Go functions that the law SpellWorth reaches, as Lean functions, each with a proof that the Go code comes to just what it says; every input of the kinds that a contract names. -/
import Derived.Test.YtlkoapcaboinaaaMSpellWorthx0
import Derived.Test.YtlkoapcaboinaaaMSpellWorthx1
namespace Go.Proofs.Ytlkoapcaboinaaa.MSpellWorth
open Go.RowKit Go.Proofs.YtlkoapcaboinaaaW.PrintWords Go.Proofs.YtlkoapcaboinaaaW.PrintLast Go.Proofs.YtlkoapcaboinaaaW.PrintMore
attribute [local go_sem] max2_int min2_int max_two min_two max_three min_three max_four min_four   -- for this text's walks alone
set_option linter.unusedVariables false
set_option linter.unusedSimpArgs false
set_option linter.unnecessarySimpa false

/-! ### spell_Of: function 7 (typed by hand) -/
def spell_Of.sp (b13 b12 b8 bi b10 b1 b3 b2 half split : Bool) : Bool × Bool × Bool × Bool × Bool × Bool × Bool :=
  if b13 = true then (true, false, false, true, false, true, !b12)
  else if b8 = true then (true, false, false, true, !split && bi, false, false)
  else (b1 || (half && b3), !(b1 || (half && b3)) && (half || b2), b10, false, false, false, false)
theorem spell_Of.results_c {P : Program} {fn : Func} {p q : Tmp} {ty : TypeId} (h : fn.results = #[.cell p ty, .tmp q]) (tmps : Array Value) (w : World) (g : Nat) (t : TypeId) (cs : Array Value) (fr : Nat × Nat) (d : TypeDesc) (v : Value)
    (hp : tmps.getD p undef = .pointer (some ⟨g, 0, none⟩)) (hv : tmps.getD q undef = v) (hg : w.heap[g]? = some (.cells cs t fr))
    (hu : P.underlying ty = some d) (hd : (match d with | .struct _ | .array _ _ => true | _ => false) = true) (hi : (P.info? ty).map (·.size) = some cs.size) :
    (results fn tmps).run P w = .ok (.tuple #[.agg cs, v]) w := by
  have hp' : tmps[p]?.getD undef = .pointer (some ⟨g, 0, none⟩) := by simpa using hp
  have hv' : tmps[q]?.getD undef = v := by simpa using hv
  simp [results, h, hp', hv', asAddr, run_loadVar_row w g t ty cs fr d hg hu hd hi]
set_option maxHeartbeats 8000000 in
theorem spell_Of.clo (x L : Int) (r : Bool) (hr : decide (L ≥ x) = r) (g : Nat) (w : World) (hc : w.cell? ⟨g, 0, none⟩ = some (.int .i64 L)) : Calls Try.prog 15 #[.int .i64 x, .pointer (some ⟨g, 0, none⟩)] w fun e w' => e = .returned (.bool r) ∧ w' = w := by
  subst hr
  go_enter Try.func15, Try.ntmps15
  go_wp2
  first | go_ret | go_ret2
  exact ⟨rfl, rfl⟩
set_option maxHeartbeats 8000000 in
set_option maxRecDepth 100000 in
theorem spell_Of.l0 (a0_0 : Int) (a0_1 : Int) (a0_2 : Int) (a0_3 : Int) (a0_4 : Int) (a0_5 : Int) (a0_6 : Int) (a0_7 : Int) (a0_8 : Int) (a0_9 : Int) (a0_10 : Int) (a0_11 : Int) (a0_12 : Int) (a0_13 : Int) (a0_14 : Int) (a0_15 : Int) (a0_16 : Int) (a0_17 : Int) (a0_18 : Int) (a1_0 : Int) (a1_1 : Int) (a2 : Int) (t : Int) (half split : Bool) (L : Int) (hL : wrap64 (a1_1 - a1_0) = L) (w : World) (ht : ¬ t = 0) (htb : (t == 0) = false) (hchk : ∀ w : World, Calls Try.prog 14 #[.agg #[.int .i64 a0_0, .int .i64 a0_1, .int .i64 a0_2, .int .i64 a0_3, .int .i64 a0_4, .int .i64 a0_5, .int .i64 a0_6, .int .i64 a0_7, .int .i64 a0_8, .int .i64 a0_9, .int .i64 a0_10, .int .i64 a0_11, .int .i64 a0_12, .int .i64 a0_13, .int .i64 a0_14, .int .i64 a0_15, .int .i64 a0_16, .int .i64 a0_17, .int .i64 a0_18], .agg #[.int .i64 a1_0, .int .i64 a1_1], .int .i64 a2] w fun e w' => e = .returned (.int .i64 t) ∧ Below w.heap.size w w') : Calls Try.prog 7 #[.agg #[.int .i64 a0_0, .int .i64 a0_1, .int .i64 a0_2, .int .i64 a0_3, .int .i64 a0_4, .int .i64 a0_5, .int .i64 a0_6, .int .i64 a0_7, .int .i64 a0_8, .int .i64 a0_9, .int .i64 a0_10, .int .i64 a0_11, .int .i64 a0_12, .int .i64 a0_13, .int .i64 a0_14, .int .i64 a0_15, .int .i64 a0_16, .int .i64 a0_17, .int .i64 a0_18], .agg #[.int .i64 a1_0, .int .i64 a1_1], .int .i64 a2, .bool half, .bool split] w fun e w' => e = .returned (.tuple #[.agg #[.bool false, .bool false, .bool false, .bool false, .bool false, .bool false, .bool false], .int .i64 t]) ∧ Below w.heap.size w w' := by
  go_enter Try.func7, Try.ntmps7
  go_wp2_with (first | ((with_reducible refine gate_dst (N := 5) rfl ?_); refine box_event ?hg (N := 5) ?hd (cs := #[.int .i64 a0_0, .int .i64 a0_1, .int .i64 a0_2, .int .i64 a0_3, .int .i64 a0_4, .int .i64 a0_5, .int .i64 a0_6, .int .i64 a0_7, .int .i64 a0_8, .int .i64 a0_9, .int .i64 a0_10, .int .i64 a0_11, .int .i64 a0_12, .int .i64 a0_13, .int .i64 a0_14, .int .i64 a0_15, .int .i64 a0_16, .int .i64 a0_17, .int .i64 a0_18]) (t := 23) ?hr ?_; (case hd => rfl); (case hg => rfl); (case hr => first | (go_simp; done) | (go_simp; rfl)); intro gb hgb wb hbox hb; have BB := Aside0.mk hbox; have HB := Aside0.mk hb; have SB := Aside0.mk (Nat.le_of_eq hgb.symm); clear hbox hgb hb) | ((with_reducible refine gate_dst (N := 6) rfl ?_); refine box_event ?hg (N := 6) ?hd (cs := #[.int .i64 a1_0, .int .i64 a1_1]) (t := 25) ?hr ?_; (case hd => rfl); (case hg => rfl); (case hr => first | (go_simp; done) | (go_simp; rfl)); intro gs hgs ws hbox hb; have HBs_ := HB; have BS := Aside0.mk hbox; replace BB := Aside0.mk (blk_below BB.out hb); replace HB := Aside0.mk (below_step HB.out hb); have SS := Aside0.mk (Nat.le_trans (below_size HBs_.out) (Nat.le_of_eq hgs.symm)); clear hbox hgs hb HBs_) | ((with_reducible refine gate_dst (N := 10) rfl ?_); refine box_event ?hg (N := 10) ?hd (cs := #[.bool false, .bool false, .bool false, .bool false, .bool false, .bool false, .bool false]) (t := 29) ?hr ?_; (case hd => rfl); (case hg => rfl); (case hr => first | (go_simp; done) | (go_simp; rfl)); intro gr hgr wr hbox hb; have HBs_ := HB; have BR := Aside0.mk hbox; replace BB := Aside0.mk (blk_below BB.out hb); replace BS := Aside0.mk (blk_below BS.out hb); replace HB := Aside0.mk (below_step HB.out hb); have SR := Aside0.mk (Nat.le_trans (below_size HBs_.out) (Nat.le_of_eq hgr.symm)); clear hbox hgr hb HBs_) | ((with_reducible refine gate_dst (N := 17) rfl ?_); refine wpList_load_row rfl 23 (.tmp 5) rfl gb rfl 23 #[.int .i64 a0_0, .int .i64 a0_1, .int .i64 a0_2, .int .i64 a0_3, .int .i64 a0_4, .int .i64 a0_5, .int .i64 a0_6, .int .i64 a0_7, .int .i64 a0_8, .int .i64 a0_9, .int .i64 a0_10, .int .i64 a0_11, .int .i64 a0_12, .int .i64 a0_13, .int .i64 a0_14, .int .i64 a0_15, .int .i64 a0_16, .int .i64 a0_17, .int .i64 a0_18] (0, 0) _ BB.out Try.underlying23 rfl (by kernel_rfl) ?_) | ((with_reducible refine gate_dst (N := 18) rfl ?_); refine wpList_load_row rfl 25 (.tmp 6) rfl gs rfl 25 #[.int .i64 a1_0, .int .i64 a1_1] (0, 0) _ BS.out Try.underlying25 rfl (by kernel_rfl) ?_) | (go_at_call 14; refine (hchk _).mono ?_; rintro e wc ⟨rfl, hb⟩; replace BB := Aside0.mk (blk_below BB.out hb); replace BS := Aside0.mk (blk_below BS.out hb); replace BR := Aside0.mk (blk_below BR.out hb); replace HB := Aside0.mk (below_step HB.out hb); clear hb; have hs0 : wc.cell? ⟨gs, 0, none⟩ = some (.int .i64 a1_0) := (blk_cell BS.out 0).trans rfl; have hs1 : wc.cell? ⟨gs, 1, none⟩ = some (.int .i64 a1_1) := (blk_cell BS.out 1).trans rfl) | ((with_reducible refine gate_dst (N := 13) rfl ?_); refine box_event ?hg (N := 13) ?hd (cs := #[.int .i64 0]) (t := 3) ?hr ?_; (case hd => rfl); (case hg => rfl); (case hr => first | (go_simp; done) | (go_simp; rfl)); intro gl hgl wl hbox hb; have HBs_ := HB; have BL := Aside0.mk hbox; replace BB := Aside0.mk (blk_below BB.out hb); replace BS := Aside0.mk (blk_below BS.out hb); replace BR := Aside0.mk (blk_below BR.out hb); replace HB := Aside0.mk (below_step HB.out hb); have SL := Aside0.mk (Nat.le_trans (below_size HBs_.out) (Nat.le_of_eq hgl.symm)); clear hbox hgl hb HBs_ hs0 hs1; have hl0 : wl.cell? ⟨gl, 0, none⟩ = some (.int .i64 0) := (blk_cell BL.out 0).trans rfl; have hlf : wl.frozen? ⟨gl, 0, none⟩ = false := blk_frozen BL.out 0) | ((with_reducible refine gate_store (t := 3) (p := 13) rfl ?_); refine store_event (t := 3) (p := 13) (v := .tmp 29) (w1 := (wl.setCell ⟨gl, 0, none⟩ (.int .i64 L))) ?hg ?ho ?hn ?hr ?_; (case ho => rfl); (case hg => rfl); (case hn => rfl); (case hr => first | (go_simp; done) | (go_simp; rfl)); intro wv hw; have hnb := blk_ne BB.out BL.out (by decide); have hns := blk_ne BS.out BL.out (by decide); have hnr := blk_ne BR.out BL.out (by decide); replace BL := Aside0.mk (show wv.heap[gl]? = some (.cells #[.int .i64 L] 3 (0, 0)) by subst hw; exact blk_put BL.out 0 _ rfl); replace BB := Aside0.mk (show wv.heap[gb]? = _ by subst hw; exact blk_far BB.out hnb _); replace BS := Aside0.mk (show wv.heap[gs]? = _ by subst hw; exact blk_far BS.out hns _); replace BR := Aside0.mk (show wv.heap[gr]? = _ by subst hw; exact blk_far BR.out hnr _); replace HB := Aside0.mk (show Below w.heap.size w wv by subst hw; exact below_set HB.out SL.out); clear hl0 hlf hw hnb hns hnr; have hlc : wv.cell? ⟨gl, 0, none⟩ = some (.int .i64 L) := (blk_cell BL.out 0).trans rfl; have ht0 : wv.cell? ⟨gs, 0, none⟩ = some (.int .i64 a1_0) := (blk_cell BS.out 0).trans rfl; have ht1 : wv.cell? ⟨gs, 1, none⟩ = some (.int .i64 a1_1) := (blk_cell BS.out 1).trans rfl; ) | ((with_reducible refine gate_store (t := 29) (p := 10) rfl ?_); refine wpList_store_row rfl 29 _ _ rfl gr #[.bool false, .bool false, .bool false, .bool false, .bool false, .bool false, .bool false] rfl rfl 29 #[.bool false, .bool false, .bool false, .bool false, .bool false, .bool false, .bool false] BR.out (by kernel_rfl) rfl (by first | kernel_rfl | (simp [Value.oneCell']; done) | decide) ?_))
  all_goals refine bodyPost_ret (spell_Of.results_c rfl _ _ gr 29 #[.bool false, .bool false, .bool false, .bool false, .bool false, .bool false, .bool false] (0, 0) _ (.int .i64 t) rfl rfl (setRow_heap _ _ _ _ _ _ BR.out) Try.underlying29 rfl (by kernel_rfl)) rfl ?_
  all_goals exact ⟨rfl, below_setRow HB.out SR.out _⟩
set_option maxHeartbeats 8000000 in
set_option maxRecDepth 100000 in
theorem spell_Of.l1 (a0_0 : Int) (a0_1 : Int) (a0_2 : Int) (a0_3 : Int) (a0_4 : Int) (a0_5 : Int) (a0_6 : Int) (a0_7 : Int) (a0_8 : Int) (a0_9 : Int) (a0_10 : Int) (a0_11 : Int) (a0_12 : Int) (a0_13 : Int) (a0_14 : Int) (a0_15 : Int) (a0_16 : Int) (a0_17 : Int) (a0_18 : Int) (a1_0 : Int) (a1_1 : Int) (a2 : Int) (b12 half split : Bool) (L : Int) (hL : wrap64 (a1_1 - a1_0) = L) (w : World) (h13 : decide (L ≥ a0_13) = true) (h12 : decide (L ≥ a0_12) = b12) (hchk : ∀ w : World, Calls Try.prog 14 #[.agg #[.int .i64 a0_0, .int .i64 a0_1, .int .i64 a0_2, .int .i64 a0_3, .int .i64 a0_4, .int .i64 a0_5, .int .i64 a0_6, .int .i64 a0_7, .int .i64 a0_8, .int .i64 a0_9, .int .i64 a0_10, .int .i64 a0_11, .int .i64 a0_12, .int .i64 a0_13, .int .i64 a0_14, .int .i64 a0_15, .int .i64 a0_16, .int .i64 a0_17, .int .i64 a0_18], .agg #[.int .i64 a1_0, .int .i64 a1_1], .int .i64 a2] w fun e w' => e = .returned (.int .i64 0) ∧ Below w.heap.size w w') : Calls Try.prog 7 #[.agg #[.int .i64 a0_0, .int .i64 a0_1, .int .i64 a0_2, .int .i64 a0_3, .int .i64 a0_4, .int .i64 a0_5, .int .i64 a0_6, .int .i64 a0_7, .int .i64 a0_8, .int .i64 a0_9, .int .i64 a0_10, .int .i64 a0_11, .int .i64 a0_12, .int .i64 a0_13, .int .i64 a0_14, .int .i64 a0_15, .int .i64 a0_16, .int .i64 a0_17, .int .i64 a0_18], .agg #[.int .i64 a1_0, .int .i64 a1_1], .int .i64 a2, .bool half, .bool split] w fun e w' => e = .returned (.tuple #[.agg #[.bool true, .bool false, .bool false, .bool true, .bool false, .bool true, .bool (!b12)], .int .i64 0]) ∧ Below w.heap.size w w' := by
  go_enter Try.func7, Try.ntmps7
  go_wp2_with (first | ((with_reducible refine gate_dst (N := 5) rfl ?_); refine box_event ?hg (N := 5) ?hd (cs := #[.int .i64 a0_0, .int .i64 a0_1, .int .i64 a0_2, .int .i64 a0_3, .int .i64 a0_4, .int .i64 a0_5, .int .i64 a0_6, .int .i64 a0_7, .int .i64 a0_8, .int .i64 a0_9, .int .i64 a0_10, .int .i64 a0_11, .int .i64 a0_12, .int .i64 a0_13, .int .i64 a0_14, .int .i64 a0_15, .int .i64 a0_16, .int .i64 a0_17, .int .i64 a0_18]) (t := 23) ?hr ?_; (case hd => rfl); (case hg => rfl); (case hr => first | (go_simp; done) | (go_simp; rfl)); intro gb hgb wb hbox hb; have BB := Aside0.mk hbox; have HB := Aside0.mk hb; have SB := Aside0.mk (Nat.le_of_eq hgb.symm); clear hbox hgb hb) | ((with_reducible refine gate_dst (N := 6) rfl ?_); refine box_event ?hg (N := 6) ?hd (cs := #[.int .i64 a1_0, .int .i64 a1_1]) (t := 25) ?hr ?_; (case hd => rfl); (case hg => rfl); (case hr => first | (go_simp; done) | (go_simp; rfl)); intro gs hgs ws hbox hb; have HBs_ := HB; have BS := Aside0.mk hbox; replace BB := Aside0.mk (blk_below BB.out hb); replace HB := Aside0.mk (below_step HB.out hb); have SS := Aside0.mk (Nat.le_trans (below_size HBs_.out) (Nat.le_of_eq hgs.symm)); clear hbox hgs hb HBs_) | ((with_reducible refine gate_dst (N := 10) rfl ?_); refine box_event ?hg (N := 10) ?hd (cs := #[.bool false, .bool false, .bool false, .bool false, .bool false, .bool false, .bool false]) (t := 29) ?hr ?_; (case hd => rfl); (case hg => rfl); (case hr => first | (go_simp; done) | (go_simp; rfl)); intro gr hgr wr hbox hb; have HBs_ := HB; have BR := Aside0.mk hbox; replace BB := Aside0.mk (blk_below BB.out hb); replace BS := Aside0.mk (blk_below BS.out hb); replace HB := Aside0.mk (below_step HB.out hb); have SR := Aside0.mk (Nat.le_trans (below_size HBs_.out) (Nat.le_of_eq hgr.symm)); clear hbox hgr hb HBs_) | ((with_reducible refine gate_dst (N := 17) rfl ?_); refine wpList_load_row rfl 23 (.tmp 5) rfl gb rfl 23 #[.int .i64 a0_0, .int .i64 a0_1, .int .i64 a0_2, .int .i64 a0_3, .int .i64 a0_4, .int .i64 a0_5, .int .i64 a0_6, .int .i64 a0_7, .int .i64 a0_8, .int .i64 a0_9, .int .i64 a0_10, .int .i64 a0_11, .int .i64 a0_12, .int .i64 a0_13, .int .i64 a0_14, .int .i64 a0_15, .int .i64 a0_16, .int .i64 a0_17, .int .i64 a0_18] (0, 0) _ BB.out Try.underlying23 rfl (by kernel_rfl) ?_) | ((with_reducible refine gate_dst (N := 18) rfl ?_); refine wpList_load_row rfl 25 (.tmp 6) rfl gs rfl 25 #[.int .i64 a1_0, .int .i64 a1_1] (0, 0) _ BS.out Try.underlying25 rfl (by kernel_rfl) ?_) | (go_at_call 14; refine (hchk _).mono ?_; rintro e wc ⟨rfl, hb⟩; replace BB := Aside0.mk (blk_below BB.out hb); replace BS := Aside0.mk (blk_below BS.out hb); replace BR := Aside0.mk (blk_below BR.out hb); replace HB := Aside0.mk (below_step HB.out hb); clear hb; have hs0 : wc.cell? ⟨gs, 0, none⟩ = some (.int .i64 a1_0) := (blk_cell BS.out 0).trans rfl; have hs1 : wc.cell? ⟨gs, 1, none⟩ = some (.int .i64 a1_1) := (blk_cell BS.out 1).trans rfl) | ((with_reducible refine gate_dst (N := 13) rfl ?_); refine box_event ?hg (N := 13) ?hd (cs := #[.int .i64 0]) (t := 3) ?hr ?_; (case hd => rfl); (case hg => rfl); (case hr => first | (go_simp; done) | (go_simp; rfl)); intro gl hgl wl hbox hb; have HBs_ := HB; have BL := Aside0.mk hbox; replace BB := Aside0.mk (blk_below BB.out hb); replace BS := Aside0.mk (blk_below BS.out hb); replace BR := Aside0.mk (blk_below BR.out hb); replace HB := Aside0.mk (below_step HB.out hb); have SL := Aside0.mk (Nat.le_trans (below_size HBs_.out) (Nat.le_of_eq hgl.symm)); clear hbox hgl hb HBs_ hs0 hs1; have hl0 : wl.cell? ⟨gl, 0, none⟩ = some (.int .i64 0) := (blk_cell BL.out 0).trans rfl; have hlf : wl.frozen? ⟨gl, 0, none⟩ = false := blk_frozen BL.out 0) | ((with_reducible refine gate_store (t := 3) (p := 13) rfl ?_); refine store_event (t := 3) (p := 13) (v := .tmp 29) (w1 := (wl.setCell ⟨gl, 0, none⟩ (.int .i64 L))) ?hg ?ho ?hn ?hr ?_; (case ho => rfl); (case hg => rfl); (case hn => rfl); (case hr => first | (go_simp; done) | (go_simp; rfl)); intro wv hw; have hnb := blk_ne BB.out BL.out (by decide); have hns := blk_ne BS.out BL.out (by decide); have hnr := blk_ne BR.out BL.out (by decide); replace BL := Aside0.mk (show wv.heap[gl]? = some (.cells #[.int .i64 L] 3 (0, 0)) by subst hw; exact blk_put BL.out 0 _ rfl); replace BB := Aside0.mk (show wv.heap[gb]? = _ by subst hw; exact blk_far BB.out hnb _); replace BS := Aside0.mk (show wv.heap[gs]? = _ by subst hw; exact blk_far BS.out hns _); replace BR := Aside0.mk (show wv.heap[gr]? = _ by subst hw; exact blk_far BR.out hnr _); replace HB := Aside0.mk (show Below w.heap.size w wv by subst hw; exact below_set HB.out SL.out); clear hl0 hlf hw hnb hns hnr; have hlc : wv.cell? ⟨gl, 0, none⟩ = some (.int .i64 L) := (blk_cell BL.out 0).trans rfl; have ht0 : wv.cell? ⟨gs, 0, none⟩ = some (.int .i64 a1_0) := (blk_cell BS.out 0).trans rfl; have ht1 : wv.cell? ⟨gs, 1, none⟩ = some (.int .i64 a1_1) := (blk_cell BS.out 1).trans rfl; have hc13 : wv.cell? ⟨gb, 13, none⟩ = some (.int .i64 a0_13) := (blk_cell BB.out 13).trans rfl; have hc12 : wv.cell? ⟨gb, 12, none⟩ = some (.int .i64 a0_12) := (blk_cell BB.out 12).trans rfl) | (go_at_call 15; refine (spell_Of.clo _ L _ h13 gl _ hlc).mono ?_; rintro e wv ⟨rfl, rfl⟩) | (go_at_call 15; refine (spell_Of.clo _ L _ h12 gl _ hlc).mono ?_; rintro e wv ⟨rfl, rfl⟩) | ((with_reducible refine gate_store (t := 29) (p := 10) rfl ?_); refine wpList_store_row rfl 29 _ _ rfl gr #[.bool true, .bool false, .bool false, .bool true, .bool false, .bool true, .bool (!b12)] rfl rfl 29 #[.bool false, .bool false, .bool false, .bool false, .bool false, .bool false, .bool false] BR.out (by kernel_rfl) rfl (by first | kernel_rfl | (simp [Value.oneCell']; done) | decide) ?_))
  all_goals refine bodyPost_ret (spell_Of.results_c rfl _ _ gr 29 #[.bool true, .bool false, .bool false, .bool true, .bool false, .bool true, .bool (!b12)] (0, 0) _ (.int .i64 0) rfl rfl (setRow_heap _ _ _ _ _ _ BR.out) Try.underlying29 rfl (by kernel_rfl)) rfl ?_
  all_goals exact ⟨rfl, below_setRow HB.out SR.out _⟩
set_option maxHeartbeats 8000000 in
set_option maxRecDepth 100000 in
theorem spell_Of.l2 (a0_0 : Int) (a0_1 : Int) (a0_2 : Int) (a0_3 : Int) (a0_4 : Int) (a0_5 : Int) (a0_6 : Int) (a0_7 : Int) (a0_8 : Int) (a0_9 : Int) (a0_10 : Int) (a0_11 : Int) (a0_12 : Int) (a0_13 : Int) (a0_14 : Int) (a0_15 : Int) (a0_16 : Int) (a0_17 : Int) (a0_18 : Int) (a1_0 : Int) (a1_1 : Int) (a2 : Int) (half : Bool) (L : Int) (hL : wrap64 (a1_1 - a1_0) = L) (w : World) (h13 : decide (L ≥ a0_13) = false) (h8 : decide (L ≥ a0_8) = true) (hchk : ∀ w : World, Calls Try.prog 14 #[.agg #[.int .i64 a0_0, .int .i64 a0_1, .int .i64 a0_2, .int .i64 a0_3, .int .i64 a0_4, .int .i64 a0_5, .int .i64 a0_6, .int .i64 a0_7, .int .i64 a0_8, .int .i64 a0_9, .int .i64 a0_10, .int .i64 a0_11, .int .i64 a0_12, .int .i64 a0_13, .int .i64 a0_14, .int .i64 a0_15, .int .i64 a0_16, .int .i64 a0_17, .int .i64 a0_18], .agg #[.int .i64 a1_0, .int .i64 a1_1], .int .i64 a2] w fun e w' => e = .returned (.int .i64 0) ∧ Below w.heap.size w w') : Calls Try.prog 7 #[.agg #[.int .i64 a0_0, .int .i64 a0_1, .int .i64 a0_2, .int .i64 a0_3, .int .i64 a0_4, .int .i64 a0_5, .int .i64 a0_6, .int .i64 a0_7, .int .i64 a0_8, .int .i64 a0_9, .int .i64 a0_10, .int .i64 a0_11, .int .i64 a0_12, .int .i64 a0_13, .int .i64 a0_14, .int .i64 a0_15, .int .i64 a0_16, .int .i64 a0_17, .int .i64 a0_18], .agg #[.int .i64 a1_0, .int .i64 a1_1], .int .i64 a2, .bool half, .bool true] w fun e w' => e = .returned (.tuple #[.agg #[.bool true, .bool false, .bool false, .bool true, .bool false, .bool false, .bool false], .int .i64 0]) ∧ Below w.heap.size w w' := by
  go_enter Try.func7, Try.ntmps7
  go_wp2_with (first | ((with_reducible refine gate_dst (N := 5) rfl ?_); refine box_event ?hg (N := 5) ?hd (cs := #[.int .i64 a0_0, .int .i64 a0_1, .int .i64 a0_2, .int .i64 a0_3, .int .i64 a0_4, .int .i64 a0_5, .int .i64 a0_6, .int .i64 a0_7, .int .i64 a0_8, .int .i64 a0_9, .int .i64 a0_10, .int .i64 a0_11, .int .i64 a0_12, .int .i64 a0_13, .int .i64 a0_14, .int .i64 a0_15, .int .i64 a0_16, .int .i64 a0_17, .int .i64 a0_18]) (t := 23) ?hr ?_; (case hd => rfl); (case hg => rfl); (case hr => first | (go_simp; done) | (go_simp; rfl)); intro gb hgb wb hbox hb; have BB := Aside0.mk hbox; have HB := Aside0.mk hb; have SB := Aside0.mk (Nat.le_of_eq hgb.symm); clear hbox hgb hb) | ((with_reducible refine gate_dst (N := 6) rfl ?_); refine box_event ?hg (N := 6) ?hd (cs := #[.int .i64 a1_0, .int .i64 a1_1]) (t := 25) ?hr ?_; (case hd => rfl); (case hg => rfl); (case hr => first | (go_simp; done) | (go_simp; rfl)); intro gs hgs ws hbox hb; have HBs_ := HB; have BS := Aside0.mk hbox; replace BB := Aside0.mk (blk_below BB.out hb); replace HB := Aside0.mk (below_step HB.out hb); have SS := Aside0.mk (Nat.le_trans (below_size HBs_.out) (Nat.le_of_eq hgs.symm)); clear hbox hgs hb HBs_) | ((with_reducible refine gate_dst (N := 10) rfl ?_); refine box_event ?hg (N := 10) ?hd (cs := #[.bool false, .bool false, .bool false, .bool false, .bool false, .bool false, .bool false]) (t := 29) ?hr ?_; (case hd => rfl); (case hg => rfl); (case hr => first | (go_simp; done) | (go_simp; rfl)); intro gr hgr wr hbox hb; have HBs_ := HB; have BR := Aside0.mk hbox; replace BB := Aside0.mk (blk_below BB.out hb); replace BS := Aside0.mk (blk_below BS.out hb); replace HB := Aside0.mk (below_step HB.out hb); have SR := Aside0.mk (Nat.le_trans (below_size HBs_.out) (Nat.le_of_eq hgr.symm)); clear hbox hgr hb HBs_) | ((with_reducible refine gate_dst (N := 17) rfl ?_); refine wpList_load_row rfl 23 (.tmp 5) rfl gb rfl 23 #[.int .i64 a0_0, .int .i64 a0_1, .int .i64 a0_2, .int .i64 a0_3, .int .i64 a0_4, .int .i64 a0_5, .int .i64 a0_6, .int .i64 a0_7, .int .i64 a0_8, .int .i64 a0_9, .int .i64 a0_10, .int .i64 a0_11, .int .i64 a0_12, .int .i64 a0_13, .int .i64 a0_14, .int .i64 a0_15, .int .i64 a0_16, .int .i64 a0_17, .int .i64 a0_18] (0, 0) _ BB.out Try.underlying23 rfl (by kernel_rfl) ?_) | ((with_reducible refine gate_dst (N := 18) rfl ?_); refine wpList_load_row rfl 25 (.tmp 6) rfl gs rfl 25 #[.int .i64 a1_0, .int .i64 a1_1] (0, 0) _ BS.out Try.underlying25 rfl (by kernel_rfl) ?_) | (go_at_call 14; refine (hchk _).mono ?_; rintro e wc ⟨rfl, hb⟩; replace BB := Aside0.mk (blk_below BB.out hb); replace BS := Aside0.mk (blk_below BS.out hb); replace BR := Aside0.mk (blk_below BR.out hb); replace HB := Aside0.mk (below_step HB.out hb); clear hb; have hs0 : wc.cell? ⟨gs, 0, none⟩ = some (.int .i64 a1_0) := (blk_cell BS.out 0).trans rfl; have hs1 : wc.cell? ⟨gs, 1, none⟩ = some (.int .i64 a1_1) := (blk_cell BS.out 1).trans rfl) | ((with_reducible refine gate_dst (N := 13) rfl ?_); refine box_event ?hg (N := 13) ?hd (cs := #[.int .i64 0]) (t := 3) ?hr ?_; (case hd => rfl); (case hg => rfl); (case hr => first | (go_simp; done) | (go_simp; rfl)); intro gl hgl wl hbox hb; have HBs_ := HB; have BL := Aside0.mk hbox; replace BB := Aside0.mk (blk_below BB.out hb); replace BS := Aside0.mk (blk_below BS.out hb); replace BR := Aside0.mk (blk_below BR.out hb); replace HB := Aside0.mk (below_step HB.out hb); have SL := Aside0.mk (Nat.le_trans (below_size HBs_.out) (Nat.le_of_eq hgl.symm)); clear hbox hgl hb HBs_ hs0 hs1; have hl0 : wl.cell? ⟨gl, 0, none⟩ = some (.int .i64 0) := (blk_cell BL.out 0).trans rfl; have hlf : wl.frozen? ⟨gl, 0, none⟩ = false := blk_frozen BL.out 0) | ((with_reducible refine gate_store (t := 3) (p := 13) rfl ?_); refine store_event (t := 3) (p := 13) (v := .tmp 29) (w1 := (wl.setCell ⟨gl, 0, none⟩ (.int .i64 L))) ?hg ?ho ?hn ?hr ?_; (case ho => rfl); (case hg => rfl); (case hn => rfl); (case hr => first | (go_simp; done) | (go_simp; rfl)); intro wv hw; have hnb := blk_ne BB.out BL.out (by decide); have hns := blk_ne BS.out BL.out (by decide); have hnr := blk_ne BR.out BL.out (by decide); replace BL := Aside0.mk (show wv.heap[gl]? = some (.cells #[.int .i64 L] 3 (0, 0)) by subst hw; exact blk_put BL.out 0 _ rfl); replace BB := Aside0.mk (show wv.heap[gb]? = _ by subst hw; exact blk_far BB.out hnb _); replace BS := Aside0.mk (show wv.heap[gs]? = _ by subst hw; exact blk_far BS.out hns _); replace BR := Aside0.mk (show wv.heap[gr]? = _ by subst hw; exact blk_far BR.out hnr _); replace HB := Aside0.mk (show Below w.heap.size w wv by subst hw; exact below_set HB.out SL.out); clear hl0 hlf hw hnb hns hnr; have hlc : wv.cell? ⟨gl, 0, none⟩ = some (.int .i64 L) := (blk_cell BL.out 0).trans rfl; have ht0 : wv.cell? ⟨gs, 0, none⟩ = some (.int .i64 a1_0) := (blk_cell BS.out 0).trans rfl; have ht1 : wv.cell? ⟨gs, 1, none⟩ = some (.int .i64 a1_1) := (blk_cell BS.out 1).trans rfl; have hc13 : wv.cell? ⟨gb, 13, none⟩ = some (.int .i64 a0_13) := (blk_cell BB.out 13).trans rfl; have hc8 : wv.cell? ⟨gb, 8, none⟩ = some (.int .i64 a0_8) := (blk_cell BB.out 8).trans rfl; have hc11 : wv.cell? ⟨gb, 11, none⟩ = some (.int .i64 a0_11) := (blk_cell BB.out 11).trans rfl; have hc7 : wv.cell? ⟨gb, 7, none⟩ = some (.int .i64 a0_7) := (blk_cell BB.out 7).trans rfl) | (go_at_call 15; refine (spell_Of.clo _ L _ h13 gl _ hlc).mono ?_; rintro e wv ⟨rfl, rfl⟩) | (go_at_call 15; refine (spell_Of.clo _ L _ h8 gl _ hlc).mono ?_; rintro e wv ⟨rfl, rfl⟩) | ((with_reducible refine gate_store (t := 29) (p := 10) rfl ?_); refine wpList_store_row rfl 29 _ _ rfl gr #[.bool true, .bool false, .bool false, .bool true, .bool false, .bool false, .bool false] rfl rfl 29 #[.bool false, .bool false, .bool false, .bool false, .bool false, .bool false, .bool false] BR.out (by kernel_rfl) rfl (by first | kernel_rfl | (simp [Value.oneCell']; done) | decide) ?_))
  all_goals refine bodyPost_ret (spell_Of.results_c rfl _ _ gr 29 #[.bool true, .bool false, .bool false, .bool true, .bool false, .bool false, .bool false] (0, 0) _ (.int .i64 0) rfl rfl (setRow_heap _ _ _ _ _ _ BR.out) Try.underlying29 rfl (by kernel_rfl)) rfl ?_
  all_goals exact ⟨rfl, below_setRow HB.out SR.out _⟩
set_option maxHeartbeats 8000000 in
set_option maxRecDepth 100000 in
theorem spell_Of.l3a (a0_0 : Int) (a0_1 : Int) (a0_2 : Int) (a0_3 : Int) (a0_4 : Int) (a0_5 : Int) (a0_6 : Int) (a0_7 : Int) (a0_8 : Int) (a0_9 : Int) (a0_10 : Int) (a0_11 : Int) (a0_12 : Int) (a0_13 : Int) (a0_14 : Int) (a0_15 : Int) (a0_16 : Int) (a0_17 : Int) (a0_18 : Int) (a1_0 : Int) (a1_1 : Int) (a2 : Int) (half : Bool) (L : Int) (hL : wrap64 (a1_1 - a1_0) = L) (w : World) (h13 : decide (L ≥ a0_13) = false) (h8 : decide (L ≥ a0_8) = true) (hm : a1_1 ≤ wrap64 (a2 + a0_11)) (hchk : ∀ w : World, Calls Try.prog 14 #[.agg #[.int .i64 a0_0, .int .i64 a0_1, .int .i64 a0_2, .int .i64 a0_3, .int .i64 a0_4, .int .i64 a0_5, .int .i64 a0_6, .int .i64 a0_7, .int .i64 a0_8, .int .i64 a0_9, .int .i64 a0_10, .int .i64 a0_11, .int .i64 a0_12, .int .i64 a0_13, .int .i64 a0_14, .int .i64 a0_15, .int .i64 a0_16, .int .i64 a0_17, .int .i64 a0_18], .agg #[.int .i64 a1_0, .int .i64 a1_1], .int .i64 a2] w fun e w' => e = .returned (.int .i64 0) ∧ Below w.heap.size w w') : Calls Try.prog 7 #[.agg #[.int .i64 a0_0, .int .i64 a0_1, .int .i64 a0_2, .int .i64 a0_3, .int .i64 a0_4, .int .i64 a0_5, .int .i64 a0_6, .int .i64 a0_7, .int .i64 a0_8, .int .i64 a0_9, .int .i64 a0_10, .int .i64 a0_11, .int .i64 a0_12, .int .i64 a0_13, .int .i64 a0_14, .int .i64 a0_15, .int .i64 a0_16, .int .i64 a0_17, .int .i64 a0_18], .agg #[.int .i64 a1_0, .int .i64 a1_1], .int .i64 a2, .bool half, .bool false] w fun e w' => e = .returned (.tuple #[.agg #[.bool true, .bool false, .bool false, .bool true, .bool (decide (L < a0_7)), .bool false, .bool false], .int .i64 0]) ∧ Below w.heap.size w w' := by
  go_enter Try.func7, Try.ntmps7
  go_wp2_with (first | ((with_reducible refine gate_dst (N := 5) rfl ?_); refine box_event ?hg (N := 5) ?hd (cs := #[.int .i64 a0_0, .int .i64 a0_1, .int .i64 a0_2, .int .i64 a0_3, .int .i64 a0_4, .int .i64 a0_5, .int .i64 a0_6, .int .i64 a0_7, .int .i64 a0_8, .int .i64 a0_9, .int .i64 a0_10, .int .i64 a0_11, .int .i64 a0_12, .int .i64 a0_13, .int .i64 a0_14, .int .i64 a0_15, .int .i64 a0_16, .int .i64 a0_17, .int .i64 a0_18]) (t := 23) ?hr ?_; (case hd => rfl); (case hg => rfl); (case hr => first | (go_simp; done) | (go_simp; rfl)); intro gb hgb wb hbox hb; have BB := Aside0.mk hbox; have HB := Aside0.mk hb; have SB := Aside0.mk (Nat.le_of_eq hgb.symm); clear hbox hgb hb) | ((with_reducible refine gate_dst (N := 6) rfl ?_); refine box_event ?hg (N := 6) ?hd (cs := #[.int .i64 a1_0, .int .i64 a1_1]) (t := 25) ?hr ?_; (case hd => rfl); (case hg => rfl); (case hr => first | (go_simp; done) | (go_simp; rfl)); intro gs hgs ws hbox hb; have HBs_ := HB; have BS := Aside0.mk hbox; replace BB := Aside0.mk (blk_below BB.out hb); replace HB := Aside0.mk (below_step HB.out hb); have SS := Aside0.mk (Nat.le_trans (below_size HBs_.out) (Nat.le_of_eq hgs.symm)); clear hbox hgs hb HBs_) | ((with_reducible refine gate_dst (N := 10) rfl ?_); refine box_event ?hg (N := 10) ?hd (cs := #[.bool false, .bool false, .bool false, .bool false, .bool false, .bool false, .bool false]) (t := 29) ?hr ?_; (case hd => rfl); (case hg => rfl); (case hr => first | (go_simp; done) | (go_simp; rfl)); intro gr hgr wr hbox hb; have HBs_ := HB; have BR := Aside0.mk hbox; replace BB := Aside0.mk (blk_below BB.out hb); replace BS := Aside0.mk (blk_below BS.out hb); replace HB := Aside0.mk (below_step HB.out hb); have SR := Aside0.mk (Nat.le_trans (below_size HBs_.out) (Nat.le_of_eq hgr.symm)); clear hbox hgr hb HBs_) | ((with_reducible refine gate_dst (N := 17) rfl ?_); refine wpList_load_row rfl 23 (.tmp 5) rfl gb rfl 23 #[.int .i64 a0_0, .int .i64 a0_1, .int .i64 a0_2, .int .i64 a0_3, .int .i64 a0_4, .int .i64 a0_5, .int .i64 a0_6, .int .i64 a0_7, .int .i64 a0_8, .int .i64 a0_9, .int .i64 a0_10, .int .i64 a0_11, .int .i64 a0_12, .int .i64 a0_13, .int .i64 a0_14, .int .i64 a0_15, .int .i64 a0_16, .int .i64 a0_17, .int .i64 a0_18] (0, 0) _ BB.out Try.underlying23 rfl (by kernel_rfl) ?_) | ((with_reducible refine gate_dst (N := 18) rfl ?_); refine wpList_load_row rfl 25 (.tmp 6) rfl gs rfl 25 #[.int .i64 a1_0, .int .i64 a1_1] (0, 0) _ BS.out Try.underlying25 rfl (by kernel_rfl) ?_) | (go_at_call 14; refine (hchk _).mono ?_; rintro e wc ⟨rfl, hb⟩; replace BB := Aside0.mk (blk_below BB.out hb); replace BS := Aside0.mk (blk_below BS.out hb); replace BR := Aside0.mk (blk_below BR.out hb); replace HB := Aside0.mk (below_step HB.out hb); clear hb; have hs0 : wc.cell? ⟨gs, 0, none⟩ = some (.int .i64 a1_0) := (blk_cell BS.out 0).trans rfl; have hs1 : wc.cell? ⟨gs, 1, none⟩ = some (.int .i64 a1_1) := (blk_cell BS.out 1).trans rfl) | ((with_reducible refine gate_dst (N := 13) rfl ?_); refine box_event ?hg (N := 13) ?hd (cs := #[.int .i64 0]) (t := 3) ?hr ?_; (case hd => rfl); (case hg => rfl); (case hr => first | (go_simp; done) | (go_simp; rfl)); intro gl hgl wl hbox hb; have HBs_ := HB; have BL := Aside0.mk hbox; replace BB := Aside0.mk (blk_below BB.out hb); replace BS := Aside0.mk (blk_below BS.out hb); replace BR := Aside0.mk (blk_below BR.out hb); replace HB := Aside0.mk (below_step HB.out hb); have SL := Aside0.mk (Nat.le_trans (below_size HBs_.out) (Nat.le_of_eq hgl.symm)); clear hbox hgl hb HBs_ hs0 hs1; have hl0 : wl.cell? ⟨gl, 0, none⟩ = some (.int .i64 0) := (blk_cell BL.out 0).trans rfl; have hlf : wl.frozen? ⟨gl, 0, none⟩ = false := blk_frozen BL.out 0) | ((with_reducible refine gate_store (t := 3) (p := 13) rfl ?_); refine store_event (t := 3) (p := 13) (v := .tmp 29) (w1 := (wl.setCell ⟨gl, 0, none⟩ (.int .i64 L))) ?hg ?ho ?hn ?hr ?_; (case ho => rfl); (case hg => rfl); (case hn => rfl); (case hr => first | (go_simp; done) | (go_simp; rfl)); intro wv hw; have hnb := blk_ne BB.out BL.out (by decide); have hns := blk_ne BS.out BL.out (by decide); have hnr := blk_ne BR.out BL.out (by decide); replace BL := Aside0.mk (show wv.heap[gl]? = some (.cells #[.int .i64 L] 3 (0, 0)) by subst hw; exact blk_put BL.out 0 _ rfl); replace BB := Aside0.mk (show wv.heap[gb]? = _ by subst hw; exact blk_far BB.out hnb _); replace BS := Aside0.mk (show wv.heap[gs]? = _ by subst hw; exact blk_far BS.out hns _); replace BR := Aside0.mk (show wv.heap[gr]? = _ by subst hw; exact blk_far BR.out hnr _); replace HB := Aside0.mk (show Below w.heap.size w wv by subst hw; exact below_set HB.out SL.out); clear hl0 hlf hw hnb hns hnr; have hlc : wv.cell? ⟨gl, 0, none⟩ = some (.int .i64 L) := (blk_cell BL.out 0).trans rfl; have ht0 : wv.cell? ⟨gs, 0, none⟩ = some (.int .i64 a1_0) := (blk_cell BS.out 0).trans rfl; have ht1 : wv.cell? ⟨gs, 1, none⟩ = some (.int .i64 a1_1) := (blk_cell BS.out 1).trans rfl; have hc13 : wv.cell? ⟨gb, 13, none⟩ = some (.int .i64 a0_13) := (blk_cell BB.out 13).trans rfl; have hc8 : wv.cell? ⟨gb, 8, none⟩ = some (.int .i64 a0_8) := (blk_cell BB.out 8).trans rfl; have hc11 : wv.cell? ⟨gb, 11, none⟩ = some (.int .i64 a0_11) := (blk_cell BB.out 11).trans rfl; have hc7 : wv.cell? ⟨gb, 7, none⟩ = some (.int .i64 a0_7) := (blk_cell BB.out 7).trans rfl) | (go_at_call 15; refine (spell_Of.clo _ L _ h13 gl _ hlc).mono ?_; rintro e wv ⟨rfl, rfl⟩) | (go_at_call 15; refine (spell_Of.clo _ L _ h8 gl _ hlc).mono ?_; rintro e wv ⟨rfl, rfl⟩) | ((with_reducible refine gate_store (t := 29) (p := 10) rfl ?_); refine wpList_store_row rfl 29 _ _ rfl gr #[.bool true, .bool false, .bool false, .bool true, .bool (decide (L < a0_7)), .bool false, .bool false] rfl rfl 29 #[.bool false, .bool false, .bool false, .bool false, .bool false, .bool false, .bool false] BR.out (by kernel_rfl) rfl (by first | kernel_rfl | (simp [Value.oneCell']; done) | decide) ?_))
  all_goals refine bodyPost_ret (spell_Of.results_c rfl _ _ gr 29 #[.bool true, .bool false, .bool false, .bool true, .bool (decide (L < a0_7)), .bool false, .bool false] (0, 0) _ (.int .i64 0) rfl rfl (setRow_heap _ _ _ _ _ _ BR.out) Try.underlying29 rfl (by kernel_rfl)) rfl ?_
  all_goals exact ⟨rfl, below_setRow HB.out SR.out _⟩
set_option maxHeartbeats 8000000 in
set_option maxRecDepth 100000 in
theorem spell_Of.l3b (a0_0 : Int) (a0_1 : Int) (a0_2 : Int) (a0_3 : Int) (a0_4 : Int) (a0_5 : Int) (a0_6 : Int) (a0_7 : Int) (a0_8 : Int) (a0_9 : Int) (a0_10 : Int) (a0_11 : Int) (a0_12 : Int) (a0_13 : Int) (a0_14 : Int) (a0_15 : Int) (a0_16 : Int) (a0_17 : Int) (a0_18 : Int) (a1_0 : Int) (a1_1 : Int) (a2 : Int) (half : Bool) (L : Int) (hL : wrap64 (a1_1 - a1_0) = L) (w : World) (h13 : decide (L ≥ a0_13) = false) (h8 : decide (L ≥ a0_8) = true) (hm : ¬ a1_1 ≤ wrap64 (a2 + a0_11)) (hchk : ∀ w : World, Calls Try.prog 14 #[.agg #[.int .i64 a0_0, .int .i64 a0_1, .int .i64 a0_2, .int .i64 a0_3, .int .i64 a0_4, .int .i64 a0_5, .int .i64 a0_6, .int .i64 a0_7, .int .i64 a0_8, .int .i64 a0_9, .int .i64 a0_10, .int .i64 a0_11, .int .i64 a0_12, .int .i64 a0_13, .int .i64 a0_14, .int .i64 a0_15, .int .i64 a0_16, .int .i64 a0_17, .int .i64 a0_18], .agg #[.int .i64 a1_0, .int .i64 a1_1], .int .i64 a2] w fun e w' => e = .returned (.int .i64 0) ∧ Below w.heap.size w w') : Calls Try.prog 7 #[.agg #[.int .i64 a0_0, .int .i64 a0_1, .int .i64 a0_2, .int .i64 a0_3, .int .i64 a0_4, .int .i64 a0_5, .int .i64 a0_6, .int .i64 a0_7, .int .i64 a0_8, .int .i64 a0_9, .int .i64 a0_10, .int .i64 a0_11, .int .i64 a0_12, .int .i64 a0_13, .int .i64 a0_14, .int .i64 a0_15, .int .i64 a0_16, .int .i64 a0_17, .int .i64 a0_18], .agg #[.int .i64 a1_0, .int .i64 a1_1], .int .i64 a2, .bool half, .bool false] w fun e w' => e = .returned (.tuple #[.agg #[.bool true, .bool false, .bool false, .bool true, .bool (decide (wrap64 (wrap64 (a2 + a0_11) - a1_0) < a0_7)), .bool false, .bool false], .int .i64 0]) ∧ Below w.heap.size w w' := by
  go_enter Try.func7, Try.ntmps7
  go_wp2_with (first | ((with_reducible refine gate_dst (N := 5) rfl ?_); refine box_event ?hg (N := 5) ?hd (cs := #[.int .i64 a0_0, .int .i64 a0_1, .int .i64 a0_2, .int .i64 a0_3, .int .i64 a0_4, .int .i64 a0_5, .int .i64 a0_6, .int .i64 a0_7, .int .i64 a0_8, .int .i64 a0_9, .int .i64 a0_10, .int .i64 a0_11, .int .i64 a0_12, .int .i64 a0_13, .int .i64 a0_14, .int .i64 a0_15, .int .i64 a0_16, .int .i64 a0_17, .int .i64 a0_18]) (t := 23) ?hr ?_; (case hd => rfl); (case hg => rfl); (case hr => first | (go_simp; done) | (go_simp; rfl)); intro gb hgb wb hbox hb; have BB := Aside0.mk hbox; have HB := Aside0.mk hb; have SB := Aside0.mk (Nat.le_of_eq hgb.symm); clear hbox hgb hb) | ((with_reducible refine gate_dst (N := 6) rfl ?_); refine box_event ?hg (N := 6) ?hd (cs := #[.int .i64 a1_0, .int .i64 a1_1]) (t := 25) ?hr ?_; (case hd => rfl); (case hg => rfl); (case hr => first | (go_simp; done) | (go_simp; rfl)); intro gs hgs ws hbox hb; have HBs_ := HB; have BS := Aside0.mk hbox; replace BB := Aside0.mk (blk_below BB.out hb); replace HB := Aside0.mk (below_step HB.out hb); have SS := Aside0.mk (Nat.le_trans (below_size HBs_.out) (Nat.le_of_eq hgs.symm)); clear hbox hgs hb HBs_) | ((with_reducible refine gate_dst (N := 10) rfl ?_); refine box_event ?hg (N := 10) ?hd (cs := #[.bool false, .bool false, .bool false, .bool false, .bool false, .bool false, .bool false]) (t := 29) ?hr ?_; (case hd => rfl); (case hg => rfl); (case hr => first | (go_simp; done) | (go_simp; rfl)); intro gr hgr wr hbox hb; have HBs_ := HB; have BR := Aside0.mk hbox; replace BB := Aside0.mk (blk_below BB.out hb); replace BS := Aside0.mk (blk_below BS.out hb); replace HB := Aside0.mk (below_step HB.out hb); have SR := Aside0.mk (Nat.le_trans (below_size HBs_.out) (Nat.le_of_eq hgr.symm)); clear hbox hgr hb HBs_) | ((with_reducible refine gate_dst (N := 17) rfl ?_); refine wpList_load_row rfl 23 (.tmp 5) rfl gb rfl 23 #[.int .i64 a0_0, .int .i64 a0_1, .int .i64 a0_2, .int .i64 a0_3, .int .i64 a0_4, .int .i64 a0_5, .int .i64 a0_6, .int .i64 a0_7, .int .i64 a0_8, .int .i64 a0_9, .int .i64 a0_10, .int .i64 a0_11, .int .i64 a0_12, .int .i64 a0_13, .int .i64 a0_14, .int .i64 a0_15, .int .i64 a0_16, .int .i64 a0_17, .int .i64 a0_18] (0, 0) _ BB.out Try.underlying23 rfl (by kernel_rfl) ?_) | ((with_reducible refine gate_dst (N := 18) rfl ?_); refine wpList_load_row rfl 25 (.tmp 6) rfl gs rfl 25 #[.int .i64 a1_0, .int .i64 a1_1] (0, 0) _ BS.out Try.underlying25 rfl (by kernel_rfl) ?_) | (go_at_call 14; refine (hchk _).mono ?_; rintro e wc ⟨rfl, hb⟩; replace BB := Aside0.mk (blk_below BB.out hb); replace BS := Aside0.mk (blk_below BS.out hb); replace BR := Aside0.mk (blk_below BR.out hb); replace HB := Aside0.mk (below_step HB.out hb); clear hb; have hs0 : wc.cell? ⟨gs, 0, none⟩ = some (.int .i64 a1_0) := (blk_cell BS.out 0).trans rfl; have hs1 : wc.cell? ⟨gs, 1, none⟩ = some (.int .i64 a1_1) := (blk_cell BS.out 1).trans rfl) | ((with_reducible refine gate_dst (N := 13) rfl ?_); refine box_event ?hg (N := 13) ?hd (cs := #[.int .i64 0]) (t := 3) ?hr ?_; (case hd => rfl); (case hg => rfl); (case hr => first | (go_simp; done) | (go_simp; rfl)); intro gl hgl wl hbox hb; have HBs_ := HB; have BL := Aside0.mk hbox; replace BB := Aside0.mk (blk_below BB.out hb); replace BS := Aside0.mk (blk_below BS.out hb); replace BR := Aside0.mk (blk_below BR.out hb); replace HB := Aside0.mk (below_step HB.out hb); have SL := Aside0.mk (Nat.le_trans (below_size HBs_.out) (Nat.le_of_eq hgl.symm)); clear hbox hgl hb HBs_ hs0 hs1; have hl0 : wl.cell? ⟨gl, 0, none⟩ = some (.int .i64 0) := (blk_cell BL.out 0).trans rfl; have hlf : wl.frozen? ⟨gl, 0, none⟩ = false := blk_frozen BL.out 0) | ((with_reducible refine gate_store (t := 3) (p := 13) rfl ?_); refine store_event (t := 3) (p := 13) (v := .tmp 29) (w1 := (wl.setCell ⟨gl, 0, none⟩ (.int .i64 L))) ?hg ?ho ?hn ?hr ?_; (case ho => rfl); (case hg => rfl); (case hn => rfl); (case hr => first | (go_simp; done) | (go_simp; rfl)); intro wv hw; have hnb := blk_ne BB.out BL.out (by decide); have hns := blk_ne BS.out BL.out (by decide); have hnr := blk_ne BR.out BL.out (by decide); replace BL := Aside0.mk (show wv.heap[gl]? = some (.cells #[.int .i64 L] 3 (0, 0)) by subst hw; exact blk_put BL.out 0 _ rfl); replace BB := Aside0.mk (show wv.heap[gb]? = _ by subst hw; exact blk_far BB.out hnb _); replace BS := Aside0.mk (show wv.heap[gs]? = _ by subst hw; exact blk_far BS.out hns _); replace BR := Aside0.mk (show wv.heap[gr]? = _ by subst hw; exact blk_far BR.out hnr _); replace HB := Aside0.mk (show Below w.heap.size w wv by subst hw; exact below_set HB.out SL.out); clear hl0 hlf hw hnb hns hnr; have hlc : wv.cell? ⟨gl, 0, none⟩ = some (.int .i64 L) := (blk_cell BL.out 0).trans rfl; have ht0 : wv.cell? ⟨gs, 0, none⟩ = some (.int .i64 a1_0) := (blk_cell BS.out 0).trans rfl; have ht1 : wv.cell? ⟨gs, 1, none⟩ = some (.int .i64 a1_1) := (blk_cell BS.out 1).trans rfl; have hc13 : wv.cell? ⟨gb, 13, none⟩ = some (.int .i64 a0_13) := (blk_cell BB.out 13).trans rfl; have hc8 : wv.cell? ⟨gb, 8, none⟩ = some (.int .i64 a0_8) := (blk_cell BB.out 8).trans rfl; have hc11 : wv.cell? ⟨gb, 11, none⟩ = some (.int .i64 a0_11) := (blk_cell BB.out 11).trans rfl; have hc7 : wv.cell? ⟨gb, 7, none⟩ = some (.int .i64 a0_7) := (blk_cell BB.out 7).trans rfl) | (go_at_call 15; refine (spell_Of.clo _ L _ h13 gl _ hlc).mono ?_; rintro e wv ⟨rfl, rfl⟩) | (go_at_call 15; refine (spell_Of.clo _ L _ h8 gl _ hlc).mono ?_; rintro e wv ⟨rfl, rfl⟩) | ((with_reducible refine gate_store (t := 29) (p := 10) rfl ?_); refine wpList_store_row rfl 29 _ _ rfl gr #[.bool true, .bool false, .bool false, .bool true, .bool (decide (wrap64 (wrap64 (a2 + a0_11) - a1_0) < a0_7)), .bool false, .bool false] rfl rfl 29 #[.bool false, .bool false, .bool false, .bool false, .bool false, .bool false, .bool false] BR.out (by kernel_rfl) rfl (by first | kernel_rfl | (simp [Value.oneCell']; done) | decide) ?_))
  all_goals refine bodyPost_ret (spell_Of.results_c rfl _ _ gr 29 #[.bool true, .bool false, .bool false, .bool true, .bool (decide (wrap64 (wrap64 (a2 + a0_11) - a1_0) < a0_7)), .bool false, .bool false] (0, 0) _ (.int .i64 0) rfl rfl (setRow_heap _ _ _ _ _ _ BR.out) Try.underlying29 rfl (by kernel_rfl)) rfl ?_
  all_goals exact ⟨rfl, below_setRow HB.out SR.out _⟩
set_option maxHeartbeats 8000000 in
set_option maxRecDepth 100000 in
theorem spell_Of.c1 (a0_0 : Int) (a0_1 : Int) (a0_2 : Int) (a0_3 : Int) (a0_4 : Int) (a0_5 : Int) (a0_6 : Int) (a0_7 : Int) (a0_8 : Int) (a0_9 : Int) (a0_10 : Int) (a0_11 : Int) (a0_12 : Int) (a0_13 : Int) (a0_14 : Int) (a0_15 : Int) (a0_16 : Int) (a0_17 : Int) (a0_18 : Int) (a1_0 : Int) (a1_1 : Int) (a2 : Int) (b10 half split : Bool) (L : Int) (hL : wrap64 (a1_1 - a1_0) = L) (w : World) (h13 : decide (L ≥ a0_13) = false) (h8 : decide (L ≥ a0_8) = false) (h10 : decide (L ≥ a0_10) = b10) (h1 : decide (L ≥ a0_1) = true) (hchk : ∀ w : World, Calls Try.prog 14 #[.agg #[.int .i64 a0_0, .int .i64 a0_1, .int .i64 a0_2, .int .i64 a0_3, .int .i64 a0_4, .int .i64 a0_5, .int .i64 a0_6, .int .i64 a0_7, .int .i64 a0_8, .int .i64 a0_9, .int .i64 a0_10, .int .i64 a0_11, .int .i64 a0_12, .int .i64 a0_13, .int .i64 a0_14, .int .i64 a0_15, .int .i64 a0_16, .int .i64 a0_17, .int .i64 a0_18], .agg #[.int .i64 a1_0, .int .i64 a1_1], .int .i64 a2] w fun e w' => e = .returned (.int .i64 0) ∧ Below w.heap.size w w') : Calls Try.prog 7 #[.agg #[.int .i64 a0_0, .int .i64 a0_1, .int .i64 a0_2, .int .i64 a0_3, .int .i64 a0_4, .int .i64 a0_5, .int .i64 a0_6, .int .i64 a0_7, .int .i64 a0_8, .int .i64 a0_9, .int .i64 a0_10, .int .i64 a0_11, .int .i64 a0_12, .int .i64 a0_13, .int .i64 a0_14, .int .i64 a0_15, .int .i64 a0_16, .int .i64 a0_17, .int .i64 a0_18], .agg #[.int .i64 a1_0, .int .i64 a1_1], .int .i64 a2, .bool half, .bool split] w fun e w' => e = .returned (.tuple #[.agg #[.bool true, .bool false, .bool b10, .bool false, .bool false, .bool false, .bool false], .int .i64 0]) ∧ Below w.heap.size w w' := by
  go_enter Try.func7, Try.ntmps7
  go_wp2_with (first | ((with_reducible refine gate_dst (N := 5) rfl ?_); refine box_event ?hg (N := 5) ?hd (cs := #[.int .i64 a0_0, .int .i64 a0_1, .int .i64 a0_2, .int .i64 a0_3, .int .i64 a0_4, .int .i64 a0_5, .int .i64 a0_6, .int .i64 a0_7, .int .i64 a0_8, .int .i64 a0_9, .int .i64 a0_10, .int .i64 a0_11, .int .i64 a0_12, .int .i64 a0_13, .int .i64 a0_14, .int .i64 a0_15, .int .i64 a0_16, .int .i64 a0_17, .int .i64 a0_18]) (t := 23) ?hr ?_; (case hd => rfl); (case hg => rfl); (case hr => first | (go_simp; done) | (go_simp; rfl)); intro gb hgb wb hbox hb; have BB := Aside0.mk hbox; have HB := Aside0.mk hb; have SB := Aside0.mk (Nat.le_of_eq hgb.symm); clear hbox hgb hb) | ((with_reducible refine gate_dst (N := 6) rfl ?_); refine box_event ?hg (N := 6) ?hd (cs := #[.int .i64 a1_0, .int .i64 a1_1]) (t := 25) ?hr ?_; (case hd => rfl); (case hg => rfl); (case hr => first | (go_simp; done) | (go_simp; rfl)); intro gs hgs ws hbox hb; have HBs_ := HB; have BS := Aside0.mk hbox; replace BB := Aside0.mk (blk_below BB.out hb); replace HB := Aside0.mk (below_step HB.out hb); have SS := Aside0.mk (Nat.le_trans (below_size HBs_.out) (Nat.le_of_eq hgs.symm)); clear hbox hgs hb HBs_) | ((with_reducible refine gate_dst (N := 10) rfl ?_); refine box_event ?hg (N := 10) ?hd (cs := #[.bool false, .bool false, .bool false, .bool false, .bool false, .bool false, .bool false]) (t := 29) ?hr ?_; (case hd => rfl); (case hg => rfl); (case hr => first | (go_simp; done) | (go_simp; rfl)); intro gr hgr wr hbox hb; have HBs_ := HB; have BR := Aside0.mk hbox; replace BB := Aside0.mk (blk_below BB.out hb); replace BS := Aside0.mk (blk_below BS.out hb); replace HB := Aside0.mk (below_step HB.out hb); have SR := Aside0.mk (Nat.le_trans (below_size HBs_.out) (Nat.le_of_eq hgr.symm)); clear hbox hgr hb HBs_) | ((with_reducible refine gate_dst (N := 17) rfl ?_); refine wpList_load_row rfl 23 (.tmp 5) rfl gb rfl 23 #[.int .i64 a0_0, .int .i64 a0_1, .int .i64 a0_2, .int .i64 a0_3, .int .i64 a0_4, .int .i64 a0_5, .int .i64 a0_6, .int .i64 a0_7, .int .i64 a0_8, .int .i64 a0_9, .int .i64 a0_10, .int .i64 a0_11, .int .i64 a0_12, .int .i64 a0_13, .int .i64 a0_14, .int .i64 a0_15, .int .i64 a0_16, .int .i64 a0_17, .int .i64 a0_18] (0, 0) _ BB.out Try.underlying23 rfl (by kernel_rfl) ?_) | ((with_reducible refine gate_dst (N := 18) rfl ?_); refine wpList_load_row rfl 25 (.tmp 6) rfl gs rfl 25 #[.int .i64 a1_0, .int .i64 a1_1] (0, 0) _ BS.out Try.underlying25 rfl (by kernel_rfl) ?_) | (go_at_call 14; refine (hchk _).mono ?_; rintro e wc ⟨rfl, hb⟩; replace BB := Aside0.mk (blk_below BB.out hb); replace BS := Aside0.mk (blk_below BS.out hb); replace BR := Aside0.mk (blk_below BR.out hb); replace HB := Aside0.mk (below_step HB.out hb); clear hb; have hs0 : wc.cell? ⟨gs, 0, none⟩ = some (.int .i64 a1_0) := (blk_cell BS.out 0).trans rfl; have hs1 : wc.cell? ⟨gs, 1, none⟩ = some (.int .i64 a1_1) := (blk_cell BS.out 1).trans rfl) | ((with_reducible refine gate_dst (N := 13) rfl ?_); refine box_event ?hg (N := 13) ?hd (cs := #[.int .i64 0]) (t := 3) ?hr ?_; (case hd => rfl); (case hg => rfl); (case hr => first | (go_simp; done) | (go_simp; rfl)); intro gl hgl wl hbox hb; have HBs_ := HB; have BL := Aside0.mk hbox; replace BB := Aside0.mk (blk_below BB.out hb); replace BS := Aside0.mk (blk_below BS.out hb); replace BR := Aside0.mk (blk_below BR.out hb); replace HB := Aside0.mk (below_step HB.out hb); have SL := Aside0.mk (Nat.le_trans (below_size HBs_.out) (Nat.le_of_eq hgl.symm)); clear hbox hgl hb HBs_ hs0 hs1; have hl0 : wl.cell? ⟨gl, 0, none⟩ = some (.int .i64 0) := (blk_cell BL.out 0).trans rfl; have hlf : wl.frozen? ⟨gl, 0, none⟩ = false := blk_frozen BL.out 0) | ((with_reducible refine gate_store (t := 3) (p := 13) rfl ?_); refine store_event (t := 3) (p := 13) (v := .tmp 29) (w1 := (wl.setCell ⟨gl, 0, none⟩ (.int .i64 L))) ?hg ?ho ?hn ?hr ?_; (case ho => rfl); (case hg => rfl); (case hn => rfl); (case hr => first | (go_simp; done) | (go_simp; rfl)); intro wv hw; have hnb := blk_ne BB.out BL.out (by decide); have hns := blk_ne BS.out BL.out (by decide); have hnr := blk_ne BR.out BL.out (by decide); replace BL := Aside0.mk (show wv.heap[gl]? = some (.cells #[.int .i64 L] 3 (0, 0)) by subst hw; exact blk_put BL.out 0 _ rfl); replace BB := Aside0.mk (show wv.heap[gb]? = _ by subst hw; exact blk_far BB.out hnb _); replace BS := Aside0.mk (show wv.heap[gs]? = _ by subst hw; exact blk_far BS.out hns _); replace BR := Aside0.mk (show wv.heap[gr]? = _ by subst hw; exact blk_far BR.out hnr _); replace HB := Aside0.mk (show Below w.heap.size w wv by subst hw; exact below_set HB.out SL.out); clear hl0 hlf hw hnb hns hnr; have hlc : wv.cell? ⟨gl, 0, none⟩ = some (.int .i64 L) := (blk_cell BL.out 0).trans rfl; have ht0 : wv.cell? ⟨gs, 0, none⟩ = some (.int .i64 a1_0) := (blk_cell BS.out 0).trans rfl; have ht1 : wv.cell? ⟨gs, 1, none⟩ = some (.int .i64 a1_1) := (blk_cell BS.out 1).trans rfl; have hc13 : wv.cell? ⟨gb, 13, none⟩ = some (.int .i64 a0_13) := (blk_cell BB.out 13).trans rfl; have hc8 : wv.cell? ⟨gb, 8, none⟩ = some (.int .i64 a0_8) := (blk_cell BB.out 8).trans rfl) | (go_at_call 15; refine (spell_Of.clo _ L _ h13 gl _ hlc).mono ?_; rintro e wv ⟨rfl, rfl⟩) | (go_at_call 15; refine (spell_Of.clo _ L _ h8 gl _ hlc).mono ?_; rintro e wv ⟨rfl, rfl⟩))
  refine start_ (n := 20) (S := fun w' => w'.cell? ⟨gb, 10, none⟩ = some (.int .i64 a0_10) ∧ w'.cell? ⟨gb, 1, none⟩ = some (.int .i64 a0_1) ∧ w'.cell? ⟨gb, 3, none⟩ = some (.int .i64 a0_3) ∧ w'.cell? ⟨gl, 0, none⟩ = some (.int .i64 L)) (ds := [19]) #[false, false, false, false, false, false, false, false, false, false, false, false, false, false, false, false, false, false, false, false] (by kernel_rfl) rfl rfl ⟨(blk_cell BB.out 10).trans rfl, (blk_cell BB.out 1).trans rfl, (blk_cell BB.out 3).trans rfl, (blk_cell BL.out 0).trans rfl⟩ (fun hHeld => ?_)
  have BD : Aside0 (wv.drew.heap[gb]? = some (.cells #[.int .i64 a0_0, .int .i64 a0_1, .int .i64 a0_2, .int .i64 a0_3, .int .i64 a0_4, .int .i64 a0_5, .int .i64 a0_6, .int .i64 a0_7, .int .i64 a0_8, .int .i64 a0_9, .int .i64 a0_10, .int .i64 a0_11, .int .i64 a0_12, .int .i64 a0_13, .int .i64 a0_14, .int .i64 a0_15, .int .i64 a0_16, .int .i64 a0_17, .int .i64 a0_18] 23 (0, 0)) ∧ wv.drew.heap[gr]? = some (.cells #[.bool false, .bool false, .bool false, .bool false, .bool false, .bool false, .bool false] 29 (0, 0)) ∧ wv.drew.heap[gl]? = some (.cells #[.int .i64 L] 3 (0, 0)) ∧ Below w.heap.size w wv.drew) := ⟨BB.out, BR.out, BL.out, HB.out.drew⟩
  clear BB BR BL HB BS hlc ht0 ht1 hc13 hc8
  generalize wv.drew = wd at BD hHeld ⊢
  have BB := Aside0.mk BD.out.1
  have BR := Aside0.mk BD.out.2.1
  have BL := Aside0.mk BD.out.2.2.1
  have HB := Aside0.mk BD.out.2.2.2
  clear BD
  refine pure_ (i := 0) (N := some 64) (v := ?_) (a' := ?_) #[true, false, false, false, false, false, false, false, false, false, false, false, false, false, false, false, false, false, false, false] rfl rfl (by kernel_rfl) (fun _ _ _ h => h) (Or.inl ⟨by rfl, ?_⟩) ?_ ?_
  rotate_left
  · intro w'
    go_simp
    with_reducible rfl
  rotate_left
  · simp only [Act.put, List.setIfInBounds_toArray, List.set_cons_zero, List.set_cons_succ, i64_w, i32_w]
    rfl
  refine pure_ (i := 1) (N := some 65) (v := ?_) (a' := ?_) #[true, true, false, false, false, false, false, false, false, false, false, false, false, false, false, false, false, false, false, false] rfl rfl (by kernel_rfl) (fun _ _ _ h => h) (Or.inl ⟨by rfl, ?_⟩) ?_ ?_
  rotate_left
  · intro w'
    go_simp
    with_reducible rfl
  rotate_left
  · simp only [Act.put, List.setIfInBounds_toArray, List.set_cons_zero, List.set_cons_succ, i64_w, i32_w]
    rfl
  refine pure_ (i := 4) (N := some 68) (v := ?_) (a' := ?_) #[true, true, false, false, true, false, false, false, false, false, false, false, false, false, false, false, false, false, false, false] rfl rfl (by kernel_rfl) (fun _ _ _ h => h) (Or.inl ⟨by rfl, ?_⟩) ?_ ?_
  rotate_left
  · intro w'
    go_simp
    with_reducible rfl
  rotate_left
  · simp only [Act.put, List.setIfInBounds_toArray, List.set_cons_zero, List.set_cons_succ, i64_w, i32_w]
    rfl
  refine pure_ (i := 5) (N := some 69) (v := ?_) (a' := ?_) #[true, true, false, false, true, true, false, false, false, false, false, false, false, false, false, false, false, false, false, false] rfl rfl (by kernel_rfl) (fun _ _ _ h => h) (Or.inl ⟨by rfl, ?_⟩) ?_ ?_
  rotate_left
  · intro w'
    go_simp
    with_reducible rfl
  rotate_left
  · simp only [Act.put, List.setIfInBounds_toArray, List.set_cons_zero, List.set_cons_succ, i64_w, i32_w]
    rfl
  refine take_ (i := 2) (N := some 66) (v := ?_) (a' := ?_) #[true, true, true, false, true, true, false, false, false, false, false, false, false, false, false, false, false, false, false, false] rfl rfl (by kernel_rfl) (fun _ _ _ h => h) (Or.inl ⟨by rfl, ?_⟩) hHeld ?_ ?_
  rotate_left
  · rintro w' ⟨s0, s1, s2, s3⟩
    go_simp
    with_reducible rfl
  rotate_left
  · simp only [Act.put, List.setIfInBounds_toArray, List.set_cons_zero, List.set_cons_succ, i64_w, i32_w]
    rfl
  refine take_ (i := 6) (N := some 70) (v := ?_) (a' := ?_) #[true, true, true, false, true, true, true, false, false, false, false, false, false, false, false, false, false, false, false, false] rfl rfl (by kernel_rfl) (fun _ _ _ h => h) (Or.inl ⟨by rfl, ?_⟩) hHeld ?_ ?_
  rotate_left
  · rintro w' ⟨s0, s1, s2, s3⟩
    go_simp
    with_reducible rfl
  rotate_left
  · simp only [Act.put, List.setIfInBounds_toArray, List.set_cons_zero, List.set_cons_succ, i64_w, i32_w]
    rfl
  refine join_ (σ := Nat) 1 #[true, true, true, true, true, true, true, true, true, true, true, true, true, true, true, true, true, true, true, false] (fun s => [(67, .bool b10), (71, .bool true), (72, .bool true), (73, undef), (74, undef), (75, undef), (76, undef), (77, undef), (78, undef), (79, undef), (80, .bool true), (81, .agg #[.bool true, .bool false, .bool b10, .bool false, .bool false, .bool false, .bool false]), (16, .pointer (some ⟨s, 0, none⟩))]) (fun s w' => w'.heap[s]? = some (.cells #[.bool false, .bool false, .bool false, .bool false, .bool false, .bool false, .bool false] 29 (0, 0)) ∧ (gr ≠ s ∧ gl ≠ s ∧ gb ≠ s ∧ w.heap.size ≤ s) ∧ w'.heap[gb]? = some (.cells #[.int .i64 a0_0, .int .i64 a0_1, .int .i64 a0_2, .int .i64 a0_3, .int .i64 a0_4, .int .i64 a0_5, .int .i64 a0_6, .int .i64 a0_7, .int .i64 a0_8, .int .i64 a0_9, .int .i64 a0_10, .int .i64 a0_11, .int .i64 a0_12, .int .i64 a0_13, .int .i64 a0_14, .int .i64 a0_15, .int .i64 a0_16, .int .i64 a0_17, .int .i64 a0_18] 23 (0, 0)) ∧ w'.heap[gr]? = some (.cells #[.bool false, .bool false, .bool false, .bool false, .bool false, .bool false, .bool false] 29 (0, 0)) ∧ w'.heap[gl]? = some (.cells #[.int .i64 L] 3 (0, 0)) ∧ Below w.heap.size w w') ?_ ?_
  rotate_left
  · intro hCont
    refine two_ (i := 3) (j := 18) (Ni := some 67) (Nj := some 16) #[true, true, true, true, true, true, true, false, false, false, false, false, false, false, false, false, false, false, false, false] #[true, true, true, false, true, true, true, false, false, false, false, false, false, false, false, false, false, false, true, false] rfl rfl rfl rfl (by kernel_rfl) (by decide) (by decide) (fun K hK => ?_) (fun K hK => ?_)
    · skip
      refine call_ 15 #[.int .i64 a0_10, .pointer (some ⟨gl, 0, none⟩)] (by rfl) rfl (by first | (go_simp; done) | (go_simp; rfl)) ?_
      with_reducible refine (spell_Of.clo _ L _ h10 gl _ ((blk_cell BL.out 0).trans rfl)).mono ?_
      rintro e wd ⟨rfl, rfl⟩
      refine ⟨_, rfl, ?_⟩
      refine hK.out _ _ ⟨(blk_cell BB.out 10).trans rfl, (blk_cell BB.out 1).trans rfl, (blk_cell BB.out 3).trans rfl, (blk_cell BL.out 0).trans rfl⟩ (fun hHeld => ?_)
      clear hK K
      refine norm_ (a' := ?_) ?_ ?_
      rotate_left
      · show Act.put _ (some 67) _ = _
        simp only [Act.put, List.setIfInBounds_toArray, List.set_cons_zero, List.set_cons_succ, i64_w, i32_w]
        rfl
      refine two_ (i := 7) (j := 18) (Ni := some 71) (Nj := some 16) #[true, true, true, true, true, true, true, true, false, false, false, false, false, false, false, false, false, false, false, false] #[true, true, true, true, true, true, true, false, false, false, false, false, false, false, false, false, false, false, true, false] rfl rfl rfl rfl (by kernel_rfl) (by decide) (by decide) (fun K hK => ?_) (fun K hK => ?_)
      · skip
        refine call_ 15 #[.int .i64 a0_1, .pointer (some ⟨gl, 0, none⟩)] (by rfl) rfl (by first | (go_simp; done) | (go_simp; rfl)) ?_
        with_reducible refine (spell_Of.clo _ L _ h1 gl _ ((blk_cell BL.out 0).trans rfl)).mono ?_
        rintro e wd ⟨rfl, rfl⟩
        refine ⟨_, rfl, ?_⟩
        refine hK.out _ _ ⟨(blk_cell BB.out 10).trans rfl, (blk_cell BB.out 1).trans rfl, (blk_cell BB.out 3).trans rfl, (blk_cell BL.out 0).trans rfl⟩ (fun hHeld => ?_)
        clear hK K
        refine norm_ (a' := ?_) ?_ ?_
        rotate_left
        · show Act.put _ (some 71) _ = _
          simp only [Act.put, List.setIfInBounds_toArray, List.set_cons_zero, List.set_cons_succ, i64_w, i32_w]
          rfl
        refine pure_ (i := 8) (N := some 72) (v := ?_) (a' := ?_) #[true, true, true, true, true, true, true, true, true, false, false, false, false, false, false, false, false, false, false, false] rfl rfl (by kernel_rfl) (fun _ _ _ h => h) (Or.inl ⟨by rfl, ?_⟩) ?_ ?_
        rotate_left
        · intro w'
          go_simp
          with_reducible rfl
        rotate_left
        · simp only [Act.put, List.setIfInBounds_toArray, List.set_cons_zero, List.set_cons_succ, i64_w, i32_w]
          rfl
        refine pure_ (i := 9) (N := some 73) (v := undef) (a' := ?_) #[true, true, true, true, true, true, true, true, true, true, false, false, false, false, false, false, false, false, false, false] rfl rfl (by kernel_rfl) (fun _ _ _ h => h) (Or.inr ⟨by rfl, rfl⟩) ?_ ?_
        rotate_left
        · simp only [Act.put, List.setIfInBounds_toArray, List.set_cons_zero, List.set_cons_succ, i64_w, i32_w]
          rfl
        refine pure_ (i := 10) (N := some 74) (v := undef) (a' := ?_) #[true, true, true, true, true, true, true, true, true, true, true, false, false, false, false, false, false, false, false, false] rfl rfl (by kernel_rfl) (fun _ _ _ h => h) (Or.inr ⟨by rfl, rfl⟩) ?_ ?_
        rotate_left
        · simp only [Act.put, List.setIfInBounds_toArray, List.set_cons_zero, List.set_cons_succ, i64_w, i32_w]
          rfl
        refine pure_ (i := 11) (N := some 75) (v := undef) (a' := ?_) #[true, true, true, true, true, true, true, true, true, true, true, true, false, false, false, false, false, false, false, false] rfl rfl (by kernel_rfl) (fun _ _ _ h => h) (Or.inr ⟨by rfl, rfl⟩) ?_ ?_
        rotate_left
        · simp only [Act.put, List.setIfInBounds_toArray, List.set_cons_zero, List.set_cons_succ, i64_w, i32_w]
          rfl
        refine pure_ (i := 12) (N := some 76) (v := undef) (a' := ?_) #[true, true, true, true, true, true, true, true, true, true, true, true, true, false, false, false, false, false, false, false] rfl rfl (by kernel_rfl) (fun _ _ _ h => h) (Or.inr ⟨by rfl, rfl⟩) ?_ ?_
        rotate_left
        · simp only [Act.put, List.setIfInBounds_toArray, List.set_cons_zero, List.set_cons_succ, i64_w, i32_w]
          rfl
        refine pure_ (i := 13) (N := some 77) (v := undef) (a' := ?_) #[true, true, true, true, true, true, true, true, true, true, true, true, true, true, false, false, false, false, false, false] rfl rfl (by kernel_rfl) (fun _ _ _ h => h) (Or.inr ⟨by rfl, rfl⟩) ?_ ?_
        rotate_left
        · simp only [Act.put, List.setIfInBounds_toArray, List.set_cons_zero, List.set_cons_succ, i64_w, i32_w]
          rfl
        refine pure_ (i := 14) (N := some 78) (v := undef) (a' := ?_) #[true, true, true, true, true, true, true, true, true, true, true, true, true, true, true, false, false, false, false, false] rfl rfl (by kernel_rfl) (fun _ _ _ h => h) (Or.inr ⟨by rfl, rfl⟩) ?_ ?_
        rotate_left
        · simp only [Act.put, List.setIfInBounds_toArray, List.set_cons_zero, List.set_cons_succ, i64_w, i32_w]
          rfl
        refine pure_ (i := 15) (N := some 79) (v := undef) (a' := ?_) #[true, true, true, true, true, true, true, true, true, true, true, true, true, true, true, true, false, false, false, false] rfl rfl (by kernel_rfl) (fun _ _ _ h => h) (Or.inr ⟨by rfl, rfl⟩) ?_ ?_
        rotate_left
        · simp only [Act.put, List.setIfInBounds_toArray, List.set_cons_zero, List.set_cons_succ, i64_w, i32_w]
          rfl
        refine pure_ (i := 16) (N := some 80) (v := ?_) (a' := ?_) #[true, true, true, true, true, true, true, true, true, true, true, true, true, true, true, true, true, false, false, false] rfl rfl (by kernel_rfl) (fun _ _ _ h => h) (Or.inl ⟨by rfl, ?_⟩) ?_ ?_
        rotate_left
        · intro w'
          go_simp
          with_reducible rfl
        rotate_left
        · simp only [Act.put, List.setIfInBounds_toArray, List.set_cons_zero, List.set_cons_succ, i64_w, i32_w]
          rfl
        refine pure_ (i := 17) (N := some 81) (v := ?_) (a' := ?_) #[true, true, true, true, true, true, true, true, true, true, true, true, true, true, true, true, true, true, false, false] rfl rfl (by kernel_rfl) (fun _ _ _ h => h) (Or.inl ⟨by rfl, ?_⟩) ?_ ?_
        rotate_left
        · intro w'
          go_simp
          with_reducible rfl
        rotate_left
        · simp only [Act.put, List.setIfInBounds_toArray, List.set_cons_zero, List.set_cons_succ, i64_w, i32_w]
          rfl
        refine one_ (i := 18) (N := some 16) #[true, true, true, true, true, true, true, true, true, true, true, true, true, true, true, true, true, true, true, false] rfl rfl (by kernel_rfl) (by decide) (fun K hK => ?_)
        refine value_ (w1 := ?_) (v := ?_) (by rfl) rfl ?_ ?_
        rotate_left 2
        · go_simp
          constructor
          · rfl
          · rfl
        refine hK.out _ _ ⟨(blk_cell (Aside0.mk (blk_alloc BB.out _)).out 10).trans rfl, (blk_cell (Aside0.mk (blk_alloc BB.out _)).out 1).trans rfl, (blk_cell (Aside0.mk (blk_alloc BB.out _)).out 3).trans rfl, (blk_cell (Aside0.mk (blk_alloc BL.out _)).out 0).trans rfl⟩ (fun hHeld => ?_)
        clear hK K
        refine norm_ (a' := ?_) ?_ ?_
        rotate_left
        · show Act.put _ (some 16) _ = _
          simp only [Act.put, List.setIfInBounds_toArray, List.set_cons_zero, List.set_cons_succ, i64_w, i32_w]
          rfl
        exact norm_ (by simp only [putAll, Act.put, List.setIfInBounds_toArray, List.set_cons_zero, List.set_cons_succ]) (hCont wd.heap.size _ ⟨blk_new _ _, ⟨Nat.ne_of_lt (blk_lt BR.out), Nat.ne_of_lt (blk_lt BL.out), Nat.ne_of_lt (blk_lt BB.out), below_size HB.out⟩, blk_alloc BB.out _, blk_alloc BR.out _, blk_alloc BL.out _, below_alloc HB.out _⟩)
      · skip
        refine value_ (w1 := ?_) (v := ?_) (by rfl) rfl ?_ ?_
        rotate_left 2
        · go_simp
          constructor
          · rfl
          · rfl
        refine hK.out _ _ ⟨(blk_cell (Aside0.mk (blk_alloc BB.out _)).out 10).trans rfl, (blk_cell (Aside0.mk (blk_alloc BB.out _)).out 1).trans rfl, (blk_cell (Aside0.mk (blk_alloc BB.out _)).out 3).trans rfl, (blk_cell (Aside0.mk (blk_alloc BL.out _)).out 0).trans rfl⟩ (fun hHeld => ?_)
        clear hK K
        refine norm_ (a' := ?_) ?_ ?_
        rotate_left
        · show Act.put _ (some 16) _ = _
          simp only [Act.put, List.setIfInBounds_toArray, List.set_cons_zero, List.set_cons_succ, i64_w, i32_w]
          rfl
        refine one_ (i := 7) (N := some 71) #[true, true, true, true, true, true, true, true, false, false, false, false, false, false, false, false, false, false, true, false] rfl rfl (by kernel_rfl) (by decide) (fun K hK => ?_)
        refine call_ 15 #[.int .i64 a0_1, .pointer (some ⟨gl, 0, none⟩)] (by rfl) rfl (by first | (go_simp; done) | (go_simp; rfl)) ?_
        with_reducible refine (spell_Of.clo _ L _ h1 gl _ ((blk_cell (Aside0.mk (blk_alloc BL.out _)).out 0).trans rfl)).mono ?_
        rintro e wd ⟨rfl, rfl⟩
        refine ⟨_, rfl, ?_⟩
        refine hK.out _ _ ⟨(blk_cell (Aside0.mk (blk_alloc BB.out _)).out 10).trans rfl, (blk_cell (Aside0.mk (blk_alloc BB.out _)).out 1).trans rfl, (blk_cell (Aside0.mk (blk_alloc BB.out _)).out 3).trans rfl, (blk_cell (Aside0.mk (blk_alloc BL.out _)).out 0).trans rfl⟩ (fun hHeld => ?_)
        clear hK K
        refine norm_ (a' := ?_) ?_ ?_
        rotate_left
        · show Act.put _ (some 71) _ = _
          simp only [Act.put, List.setIfInBounds_toArray, List.set_cons_zero, List.set_cons_succ, i64_w, i32_w]
          rfl
        refine pure_ (i := 8) (N := some 72) (v := ?_) (a' := ?_) #[true, true, true, true, true, true, true, true, true, false, false, false, false, false, false, false, false, false, true, false] rfl rfl (by kernel_rfl) (fun _ _ _ h => h) (Or.inl ⟨by rfl, ?_⟩) ?_ ?_
        rotate_left
        · intro w'
          go_simp
          with_reducible rfl
        rotate_left
        · simp only [Act.put, List.setIfInBounds_toArray, List.set_cons_zero, List.set_cons_succ, i64_w, i32_w]
          rfl
        refine pure_ (i := 9) (N := some 73) (v := undef) (a' := ?_) #[true, true, true, true, true, true, true, true, true, true, false, false, false, false, false, false, false, false, true, false] rfl rfl (by kernel_rfl) (fun _ _ _ h => h) (Or.inr ⟨by rfl, rfl⟩) ?_ ?_
        rotate_left
        · simp only [Act.put, List.setIfInBounds_toArray, List.set_cons_zero, List.set_cons_succ, i64_w, i32_w]
          rfl
        refine pure_ (i := 10) (N := some 74) (v := undef) (a' := ?_) #[true, true, true, true, true, true, true, true, true, true, true, false, false, false, false, false, false, false, true, false] rfl rfl (by kernel_rfl) (fun _ _ _ h => h) (Or.inr ⟨by rfl, rfl⟩) ?_ ?_
        rotate_left
        · simp only [Act.put, List.setIfInBounds_toArray, List.set_cons_zero, List.set_cons_succ, i64_w, i32_w]
          rfl
        refine pure_ (i := 11) (N := some 75) (v := undef) (a' := ?_) #[true, true, true, true, true, true, true, true, true, true, true, true, false, false, false, false, false, false, true, false] rfl rfl (by kernel_rfl) (fun _ _ _ h => h) (Or.inr ⟨by rfl, rfl⟩) ?_ ?_
        rotate_left
        · simp only [Act.put, List.setIfInBounds_toArray, List.set_cons_zero, List.set_cons_succ, i64_w, i32_w]
          rfl
        refine pure_ (i := 12) (N := some 76) (v := undef) (a' := ?_) #[true, true, true, true, true, true, true, true, true, true, true, true, true, false, false, false, false, false, true, false] rfl rfl (by kernel_rfl) (fun _ _ _ h => h) (Or.inr ⟨by rfl, rfl⟩) ?_ ?_
        rotate_left
        · simp only [Act.put, List.setIfInBounds_toArray, List.set_cons_zero, List.set_cons_succ, i64_w, i32_w]
          rfl
        refine pure_ (i := 13) (N := some 77) (v := undef) (a' := ?_) #[true, true, true, true, true, true, true, true, true, true, true, true, true, true, false, false, false, false, true, false] rfl rfl (by kernel_rfl) (fun _ _ _ h => h) (Or.inr ⟨by rfl, rfl⟩) ?_ ?_
        rotate_left
        · simp only [Act.put, List.setIfInBounds_toArray, List.set_cons_zero, List.set_cons_succ, i64_w, i32_w]
          rfl
        refine pure_ (i := 14) (N := some 78) (v := undef) (a' := ?_) #[true, true, true, true, true, true, true, true, true, true, true, true, true, true, true, false, false, false, true, false] rfl rfl (by kernel_rfl) (fun _ _ _ h => h) (Or.inr ⟨by rfl, rfl⟩) ?_ ?_
        rotate_left
        · simp only [Act.put, List.setIfInBounds_toArray, List.set_cons_zero, List.set_cons_succ, i64_w, i32_w]
          rfl
        refine pure_ (i := 15) (N := some 79) (v := undef) (a' := ?_) #[true, true, true, true, true, true, true, true, true, true, true, true, true, true, true, true, false, false, true, false] rfl rfl (by kernel_rfl) (fun _ _ _ h => h) (Or.inr ⟨by rfl, rfl⟩) ?_ ?_
        rotate_left
        · simp only [Act.put, List.setIfInBounds_toArray, List.set_cons_zero, List.set_cons_succ, i64_w, i32_w]
          rfl
        refine pure_ (i := 16) (N := some 80) (v := ?_) (a' := ?_) #[true, true, true, true, true, true, true, true, true, true, true, true, true, true, true, true, true, false, true, false] rfl rfl (by kernel_rfl) (fun _ _ _ h => h) (Or.inl ⟨by rfl, ?_⟩) ?_ ?_
        rotate_left
        · intro w'
          go_simp
          with_reducible rfl
        rotate_left
        · simp only [Act.put, List.setIfInBounds_toArray, List.set_cons_zero, List.set_cons_succ, i64_w, i32_w]
          rfl
        refine pure_ (i := 17) (N := some 81) (v := ?_) (a' := ?_) #[true, true, true, true, true, true, true, true, true, true, true, true, true, true, true, true, true, true, true, false] rfl rfl (by kernel_rfl) (fun _ _ _ h => h) (Or.inl ⟨by rfl, ?_⟩) ?_ ?_
        rotate_left
        · intro w'
          go_simp
          with_reducible rfl
        rotate_left
        · simp only [Act.put, List.setIfInBounds_toArray, List.set_cons_zero, List.set_cons_succ, i64_w, i32_w]
          rfl
        exact norm_ (by simp only [putAll, Act.put, List.setIfInBounds_toArray, List.set_cons_zero, List.set_cons_succ]) (hCont wd.heap.size _ ⟨blk_new _ _, ⟨Nat.ne_of_lt (blk_lt BR.out), Nat.ne_of_lt (blk_lt BL.out), Nat.ne_of_lt (blk_lt BB.out), below_size HB.out⟩, blk_alloc BB.out _, blk_alloc BR.out _, blk_alloc BL.out _, below_alloc HB.out _⟩)
    · skip
      refine value_ (w1 := ?_) (v := ?_) (by rfl) rfl ?_ ?_
      rotate_left 2
      · go_simp
        constructor
        · rfl
        · rfl
      refine hK.out _ _ ⟨(blk_cell (Aside0.mk (blk_alloc BB.out _)).out 10).trans rfl, (blk_cell (Aside0.mk (blk_alloc BB.out _)).out 1).trans rfl, (blk_cell (Aside0.mk (blk_alloc BB.out _)).out 3).trans rfl, (blk_cell (Aside0.mk (blk_alloc BL.out _)).out 0).trans rfl⟩ (fun hHeld => ?_)
      clear hK K
      refine norm_ (a' := ?_) ?_ ?_
      rotate_left
      · show Act.put _ (some 16) _ = _
        simp only [Act.put, List.setIfInBounds_toArray, List.set_cons_zero, List.set_cons_succ, i64_w, i32_w]
        rfl
      refine one_ (i := 3) (N := some 67) #[true, true, true, true, true, true, true, false, false, false, false, false, false, false, false, false, false, false, true, false] rfl rfl (by kernel_rfl) (by decide) (fun K hK => ?_)
      refine call_ 15 #[.int .i64 a0_10, .pointer (some ⟨gl, 0, none⟩)] (by rfl) rfl (by first | (go_simp; done) | (go_simp; rfl)) ?_
      with_reducible refine (spell_Of.clo _ L _ h10 gl _ ((blk_cell (Aside0.mk (blk_alloc BL.out _)).out 0).trans rfl)).mono ?_
      rintro e wd ⟨rfl, rfl⟩
      refine ⟨_, rfl, ?_⟩
      refine hK.out _ _ ⟨(blk_cell (Aside0.mk (blk_alloc BB.out _)).out 10).trans rfl, (blk_cell (Aside0.mk (blk_alloc BB.out _)).out 1).trans rfl, (blk_cell (Aside0.mk (blk_alloc BB.out _)).out 3).trans rfl, (blk_cell (Aside0.mk (blk_alloc BL.out _)).out 0).trans rfl⟩ (fun hHeld => ?_)
      clear hK K
      refine norm_ (a' := ?_) ?_ ?_
      rotate_left
      · show Act.put _ (some 67) _ = _
        simp only [Act.put, List.setIfInBounds_toArray, List.set_cons_zero, List.set_cons_succ, i64_w, i32_w]
        rfl
      refine one_ (i := 7) (N := some 71) #[true, true, true, true, true, true, true, true, false, false, false, false, false, false, false, false, false, false, true, false] rfl rfl (by kernel_rfl) (by decide) (fun K hK => ?_)
      refine call_ 15 #[.int .i64 a0_1, .pointer (some ⟨gl, 0, none⟩)] (by rfl) rfl (by first | (go_simp; done) | (go_simp; rfl)) ?_
      with_reducible refine (spell_Of.clo _ L _ h1 gl _ ((blk_cell (Aside0.mk (blk_alloc BL.out _)).out 0).trans rfl)).mono ?_
      rintro e wd ⟨rfl, rfl⟩
      refine ⟨_, rfl, ?_⟩
      refine hK.out _ _ ⟨(blk_cell (Aside0.mk (blk_alloc BB.out _)).out 10).trans rfl, (blk_cell (Aside0.mk (blk_alloc BB.out _)).out 1).trans rfl, (blk_cell (Aside0.mk (blk_alloc BB.out _)).out 3).trans rfl, (blk_cell (Aside0.mk (blk_alloc BL.out _)).out 0).trans rfl⟩ (fun hHeld => ?_)
      clear hK K
      refine norm_ (a' := ?_) ?_ ?_
      rotate_left
      · show Act.put _ (some 71) _ = _
        simp only [Act.put, List.setIfInBounds_toArray, List.set_cons_zero, List.set_cons_succ, i64_w, i32_w]
        rfl
      refine pure_ (i := 8) (N := some 72) (v := ?_) (a' := ?_) #[true, true, true, true, true, true, true, true, true, false, false, false, false, false, false, false, false, false, true, false] rfl rfl (by kernel_rfl) (fun _ _ _ h => h) (Or.inl ⟨by rfl, ?_⟩) ?_ ?_
      rotate_left
      · intro w'
        go_simp
        with_reducible rfl
      rotate_left
      · simp only [Act.put, List.setIfInBounds_toArray, List.set_cons_zero, List.set_cons_succ, i64_w, i32_w]
        rfl
      refine pure_ (i := 9) (N := some 73) (v := undef) (a' := ?_) #[true, true, true, true, true, true, true, true, true, true, false, false, false, false, false, false, false, false, true, false] rfl rfl (by kernel_rfl) (fun _ _ _ h => h) (Or.inr ⟨by rfl, rfl⟩) ?_ ?_
      rotate_left
      · simp only [Act.put, List.setIfInBounds_toArray, List.set_cons_zero, List.set_cons_succ, i64_w, i32_w]
        rfl
      refine pure_ (i := 10) (N := some 74) (v := undef) (a' := ?_) #[true, true, true, true, true, true, true, true, true, true, true, false, false, false, false, false, false, false, true, false] rfl rfl (by kernel_rfl) (fun _ _ _ h => h) (Or.inr ⟨by rfl, rfl⟩) ?_ ?_
      rotate_left
      · simp only [Act.put, List.setIfInBounds_toArray, List.set_cons_zero, List.set_cons_succ, i64_w, i32_w]
        rfl
      refine pure_ (i := 11) (N := some 75) (v := undef) (a' := ?_) #[true, true, true, true, true, true, true, true, true, true, true, true, false, false, false, false, false, false, true, false] rfl rfl (by kernel_rfl) (fun _ _ _ h => h) (Or.inr ⟨by rfl, rfl⟩) ?_ ?_
      rotate_left
      · simp only [Act.put, List.setIfInBounds_toArray, List.set_cons_zero, List.set_cons_succ, i64_w, i32_w]
        rfl
      refine pure_ (i := 12) (N := some 76) (v := undef) (a' := ?_) #[true, true, true, true, true, true, true, true, true, true, true, true, true, false, false, false, false, false, true, false] rfl rfl (by kernel_rfl) (fun _ _ _ h => h) (Or.inr ⟨by rfl, rfl⟩) ?_ ?_
      rotate_left
      · simp only [Act.put, List.setIfInBounds_toArray, List.set_cons_zero, List.set_cons_succ, i64_w, i32_w]
        rfl
      refine pure_ (i := 13) (N := some 77) (v := undef) (a' := ?_) #[true, true, true, true, true, true, true, true, true, true, true, true, true, true, false, false, false, false, true, false] rfl rfl (by kernel_rfl) (fun _ _ _ h => h) (Or.inr ⟨by rfl, rfl⟩) ?_ ?_
      rotate_left
      · simp only [Act.put, List.setIfInBounds_toArray, List.set_cons_zero, List.set_cons_succ, i64_w, i32_w]
        rfl
      refine pure_ (i := 14) (N := some 78) (v := undef) (a' := ?_) #[true, true, true, true, true, true, true, true, true, true, true, true, true, true, true, false, false, false, true, false] rfl rfl (by kernel_rfl) (fun _ _ _ h => h) (Or.inr ⟨by rfl, rfl⟩) ?_ ?_
      rotate_left
      · simp only [Act.put, List.setIfInBounds_toArray, List.set_cons_zero, List.set_cons_succ, i64_w, i32_w]
        rfl
      refine pure_ (i := 15) (N := some 79) (v := undef) (a' := ?_) #[true, true, true, true, true, true, true, true, true, true, true, true, true, true, true, true, false, false, true, false] rfl rfl (by kernel_rfl) (fun _ _ _ h => h) (Or.inr ⟨by rfl, rfl⟩) ?_ ?_
      rotate_left
      · simp only [Act.put, List.setIfInBounds_toArray, List.set_cons_zero, List.set_cons_succ, i64_w, i32_w]
        rfl
      refine pure_ (i := 16) (N := some 80) (v := ?_) (a' := ?_) #[true, true, true, true, true, true, true, true, true, true, true, true, true, true, true, true, true, false, true, false] rfl rfl (by kernel_rfl) (fun _ _ _ h => h) (Or.inl ⟨by rfl, ?_⟩) ?_ ?_
      rotate_left
      · intro w'
        go_simp
        with_reducible rfl
      rotate_left
      · simp only [Act.put, List.setIfInBounds_toArray, List.set_cons_zero, List.set_cons_succ, i64_w, i32_w]
        rfl
      refine pure_ (i := 17) (N := some 81) (v := ?_) (a' := ?_) #[true, true, true, true, true, true, true, true, true, true, true, true, true, true, true, true, true, true, true, false] rfl rfl (by kernel_rfl) (fun _ _ _ h => h) (Or.inl ⟨by rfl, ?_⟩) ?_ ?_
      rotate_left
      · intro w'
        go_simp
        with_reducible rfl
      rotate_left
      · simp only [Act.put, List.setIfInBounds_toArray, List.set_cons_zero, List.set_cons_succ, i64_w, i32_w]
        rfl
      exact norm_ (by simp only [putAll, Act.put, List.setIfInBounds_toArray, List.set_cons_zero, List.set_cons_succ]) (hCont wd.heap.size _ ⟨blk_new _ _, ⟨Nat.ne_of_lt (blk_lt BR.out), Nat.ne_of_lt (blk_lt BL.out), Nat.ne_of_lt (blk_lt BB.out), below_size HB.out⟩, blk_alloc BB.out _, blk_alloc BR.out _, blk_alloc BL.out _, below_alloc HB.out _⟩)
  rintro s wx ⟨BX, ⟨nr, nl, nb, SX⟩, BB1, BR1, BL1, HB1⟩
  replace BB := Aside0.mk BB1
  replace BR := Aside0.mk BR1
  replace BL := Aside0.mk BL1
  replace HB := Aside0.mk HB1
  clear BB1 BR1 BL1 HB1
  have hHeld : (wx.cell? ⟨gb, 10, none⟩ = some (.int .i64 a0_10) ∧ wx.cell? ⟨gb, 1, none⟩ = some (.int .i64 a0_1) ∧ wx.cell? ⟨gb, 3, none⟩ = some (.int .i64 a0_3) ∧ wx.cell? ⟨gl, 0, none⟩ = some (.int .i64 L)) := ⟨(blk_cell BB.out 10).trans rfl, (blk_cell BB.out 1).trans rfl, (blk_cell BB.out 3).trans rfl, (blk_cell BL.out 0).trans rfl⟩
  refine norm_ (a' := ?_) ?_ ?_
  rotate_left
  · simp only [putAll, Act.put, List.setIfInBounds_toArray, List.set_cons_zero, List.set_cons_succ]
    rfl
  refine last_ (i := 19) (N := none) #[true, true, true, true, true, true, true, true, true, true, true, true, true, true, true, true, true, true, true, true] rfl rfl (by kernel_rfl) (by decide) (fun K hK => ?_)
  rw [if_pos (by rfl)]
  refine wp_store_row 29 _ _ rfl s #[.bool true, .bool false, .bool b10, .bool false, .bool false, .bool false, .bool false] rfl rfl 29 #[.bool false, .bool false, .bool false, .bool false, .bool false, .bool false, .bool false] BX (by kernel_rfl) rfl (by first | kernel_rfl | (simp [Value.oneCell']; done) | decide) ?_
  refine hK.out _ _ ?_
  clear hK K
  refine done_ (by kernel_rfl) ?_
  obtain ⟨wq, hwq⟩ : ∃ wq, wq = wx.setRow s #[.bool true, .bool false, .bool b10, .bool false, .bool false, .bool false, .bool false] := ⟨_, rfl⟩
  rw [← hwq]
  replace BX := Aside0.mk (show wq.heap[s]? = some (.cells #[.bool true, .bool false, .bool b10, .bool false, .bool false, .bool false, .bool false] 29 (0, 0)) by subst hwq; exact setRow_heap _ _ _ _ _ _ BX)
  replace BB := Aside0.mk (show wq.heap[gb]? = some (.cells #[.int .i64 a0_0, .int .i64 a0_1, .int .i64 a0_2, .int .i64 a0_3, .int .i64 a0_4, .int .i64 a0_5, .int .i64 a0_6, .int .i64 a0_7, .int .i64 a0_8, .int .i64 a0_9, .int .i64 a0_10, .int .i64 a0_11, .int .i64 a0_12, .int .i64 a0_13, .int .i64 a0_14, .int .i64 a0_15, .int .i64 a0_16, .int .i64 a0_17, .int .i64 a0_18] 23 (0, 0)) by subst hwq; exact (setRow_other _ _ _ _ nb).trans BB.out)
  replace BR := Aside0.mk (show wq.heap[gr]? = some (.cells #[.bool false, .bool false, .bool false, .bool false, .bool false, .bool false, .bool false] 29 (0, 0)) by subst hwq; exact (setRow_other _ _ _ _ nr).trans BR.out)
  replace BL := Aside0.mk (show wq.heap[gl]? = some (.cells #[.int .i64 L] 3 (0, 0)) by subst hwq; exact (setRow_other _ _ _ _ nl).trans BL.out)
  replace HB := Aside0.mk (show Below w.heap.size w wq by subst hwq; exact below_setRow HB.out SX _)
  clear hwq hHeld
  have hlc : wq.cell? ⟨gl, 0, none⟩ = some (.int .i64 L) := (blk_cell BL.out 0).trans rfl
  have hc2 : wq.cell? ⟨gb, 2, none⟩ = some (.int .i64 a0_2) := (blk_cell BB.out 2).trans rfl
  have hx0 : wq.cell? ⟨s, 0, none⟩ = some (.bool true) := (blk_cell BX.out 0).trans rfl
  have hx1 : wq.cell? ⟨s, 1, none⟩ = some (.bool false) := (blk_cell BX.out 1).trans rfl
  have hxf : wq.frozen? ⟨s, 1, none⟩ = false := blk_frozen BX.out 1
  go_wp2_with (first | (go_at_call 15; refine (spell_Of.clo _ L _ h2 gl _ hlc).mono ?_; rintro e wq ⟨rfl, rfl⟩) | ((with_reducible refine gate_store (t := 4) (p := 94) rfl ?_); refine store_event (t := 4) (p := 94) (v := .tmp 93) (w1 := (wq.setCell ⟨s, 1, none⟩ (.bool false))) ?hg ?ho ?hn ?hr ?_; (case ho => rfl); (case hg => rfl); (case hn => rfl); (case hr => first | (go_simp; done) | (go_simp; rfl)); intro wz hw; replace BX := Aside0.mk (show wz.heap[s]? = some (.cells #[.bool true, .bool false, .bool b10, .bool false, .bool false, .bool false, .bool false] 29 (0, 0)) by subst hw; exact blk_put BX.out 1 _ rfl); replace BR := Aside0.mk (show wz.heap[gr]? = some (.cells #[.bool false, .bool false, .bool false, .bool false, .bool false, .bool false, .bool false] 29 (0, 0)) by subst hw; exact blk_far BR.out nr _); replace HB := Aside0.mk (show Below w.heap.size w wz by subst hw; exact below_set HB.out SX); clear hw hlc hc2 hx0 hx1 hxf BB BL) | ((with_reducible refine gate_dst (N := 95) rfl ?_); refine wpList_load_row rfl 29 (.tmp 16) rfl s rfl 29 #[.bool true, .bool false, .bool b10, .bool false, .bool false, .bool false, .bool false] (0, 0) _ BX.out Try.underlying29 rfl (by kernel_rfl) ?_) | ((with_reducible refine gate_store (t := 29) (p := 10) rfl ?_); refine wpList_store_row rfl 29 _ _ rfl gr #[.bool true, .bool false, .bool b10, .bool false, .bool false, .bool false, .bool false] rfl rfl 29 #[.bool false, .bool false, .bool false, .bool false, .bool false, .bool false, .bool false] BR.out (by kernel_rfl) rfl (by first | kernel_rfl | (simp [Value.oneCell']; done) | decide) ?_))
  all_goals refine bodyPost_ret (spell_Of.results_c rfl _ _ gr 29 #[.bool true, .bool false, .bool b10, .bool false, .bool false, .bool false, .bool false] (0, 0) _ (.int .i64 0) rfl rfl (setRow_heap _ _ _ _ _ _ BR.out) Try.underlying29 rfl (by kernel_rfl)) rfl ?_
  all_goals exact ⟨rfl, below_setRow HB.out SR.out _⟩
set_option maxHeartbeats 8000000 in
set_option maxRecDepth 100000 in
theorem spell_Of.c2 (a0_0 : Int) (a0_1 : Int) (a0_2 : Int) (a0_3 : Int) (a0_4 : Int) (a0_5 : Int) (a0_6 : Int) (a0_7 : Int) (a0_8 : Int) (a0_9 : Int) (a0_10 : Int) (a0_11 : Int) (a0_12 : Int) (a0_13 : Int) (a0_14 : Int) (a0_15 : Int) (a0_16 : Int) (a0_17 : Int) (a0_18 : Int) (a1_0 : Int) (a1_1 : Int) (a2 : Int) (b10 split : Bool) (L : Int) (hL : wrap64 (a1_1 - a1_0) = L) (w : World) (h13 : decide (L ≥ a0_13) = false) (h8 : decide (L ≥ a0_8) = false) (h10 : decide (L ≥ a0_10) = b10) (h1 : decide (L ≥ a0_1) = false) (h3 : decide (L ≥ a0_3) = true) (hchk : ∀ w : World, Calls Try.prog 14 #[.agg #[.int .i64 a0_0, .int .i64 a0_1, .int .i64 a0_2, .int .i64 a0_3, .int .i64 a0_4, .int .i64 a0_5, .int .i64 a0_6, .int .i64 a0_7, .int .i64 a0_8, .int .i64 a0_9, .int .i64 a0_10, .int .i64 a0_11, .int .i64 a0_12, .int .i64 a0_13, .int .i64 a0_14, .int .i64 a0_15, .int .i64 a0_16, .int .i64 a0_17, .int .i64 a0_18], .agg #[.int .i64 a1_0, .int .i64 a1_1], .int .i64 a2] w fun e w' => e = .returned (.int .i64 0) ∧ Below w.heap.size w w') : Calls Try.prog 7 #[.agg #[.int .i64 a0_0, .int .i64 a0_1, .int .i64 a0_2, .int .i64 a0_3, .int .i64 a0_4, .int .i64 a0_5, .int .i64 a0_6, .int .i64 a0_7, .int .i64 a0_8, .int .i64 a0_9, .int .i64 a0_10, .int .i64 a0_11, .int .i64 a0_12, .int .i64 a0_13, .int .i64 a0_14, .int .i64 a0_15, .int .i64 a0_16, .int .i64 a0_17, .int .i64 a0_18], .agg #[.int .i64 a1_0, .int .i64 a1_1], .int .i64 a2, .bool true, .bool split] w fun e w' => e = .returned (.tuple #[.agg #[.bool true, .bool false, .bool b10, .bool false, .bool false, .bool false, .bool false], .int .i64 0]) ∧ Below w.heap.size w w' := by
  go_enter Try.func7, Try.ntmps7
  go_wp2_with (first | ((with_reducible refine gate_dst (N := 5) rfl ?_); refine box_event ?hg (N := 5) ?hd (cs := #[.int .i64 a0_0, .int .i64 a0_1, .int .i64 a0_2, .int .i64 a0_3, .int .i64 a0_4, .int .i64 a0_5, .int .i64 a0_6, .int .i64 a0_7, .int .i64 a0_8, .int .i64 a0_9, .int .i64 a0_10, .int .i64 a0_11, .int .i64 a0_12, .int .i64 a0_13, .int .i64 a0_14, .int .i64 a0_15, .int .i64 a0_16, .int .i64 a0_17, .int .i64 a0_18]) (t := 23) ?hr ?_; (case hd => rfl); (case hg => rfl); (case hr => first | (go_simp; done) | (go_simp; rfl)); intro gb hgb wb hbox hb; have BB := Aside0.mk hbox; have HB := Aside0.mk hb; have SB := Aside0.mk (Nat.le_of_eq hgb.symm); clear hbox hgb hb) | ((with_reducible refine gate_dst (N := 6) rfl ?_); refine box_event ?hg (N := 6) ?hd (cs := #[.int .i64 a1_0, .int .i64 a1_1]) (t := 25) ?hr ?_; (case hd => rfl); (case hg => rfl); (case hr => first | (go_simp; done) | (go_simp; rfl)); intro gs hgs ws hbox hb; have HBs_ := HB; have BS := Aside0.mk hbox; replace BB := Aside0.mk (blk_below BB.out hb); replace HB := Aside0.mk (below_step HB.out hb); have SS := Aside0.mk (Nat.le_trans (below_size HBs_.out) (Nat.le_of_eq hgs.symm)); clear hbox hgs hb HBs_) | ((with_reducible refine gate_dst (N := 10) rfl ?_); refine box_event ?hg (N := 10) ?hd (cs := #[.bool false, .bool false, .bool false, .bool false, .bool false, .bool false, .bool false]) (t := 29) ?hr ?_; (case hd => rfl); (case hg => rfl); (case hr => first | (go_simp; done) | (go_simp; rfl)); intro gr hgr wr hbox hb; have HBs_ := HB; have BR := Aside0.mk hbox; replace BB := Aside0.mk (blk_below BB.out hb); replace BS := Aside0.mk (blk_below BS.out hb); replace HB := Aside0.mk (below_step HB.out hb); have SR := Aside0.mk (Nat.le_trans (below_size HBs_.out) (Nat.le_of_eq hgr.symm)); clear hbox hgr hb HBs_) | ((with_reducible refine gate_dst (N := 17) rfl ?_); refine wpList_load_row rfl 23 (.tmp 5) rfl gb rfl 23 #[.int .i64 a0_0, .int .i64 a0_1, .int .i64 a0_2, .int .i64 a0_3, .int .i64 a0_4, .int .i64 a0_5, .int .i64 a0_6, .int .i64 a0_7, .int .i64 a0_8, .int .i64 a0_9, .int .i64 a0_10, .int .i64 a0_11, .int .i64 a0_12, .int .i64 a0_13, .int .i64 a0_14, .int .i64 a0_15, .int .i64 a0_16, .int .i64 a0_17, .int .i64 a0_18] (0, 0) _ BB.out Try.underlying23 rfl (by kernel_rfl) ?_) | ((with_reducible refine gate_dst (N := 18) rfl ?_); refine wpList_load_row rfl 25 (.tmp 6) rfl gs rfl 25 #[.int .i64 a1_0, .int .i64 a1_1] (0, 0) _ BS.out Try.underlying25 rfl (by kernel_rfl) ?_) | (go_at_call 14; refine (hchk _).mono ?_; rintro e wc ⟨rfl, hb⟩; replace BB := Aside0.mk (blk_below BB.out hb); replace BS := Aside0.mk (blk_below BS.out hb); replace BR := Aside0.mk (blk_below BR.out hb); replace HB := Aside0.mk (below_step HB.out hb); clear hb; have hs0 : wc.cell? ⟨gs, 0, none⟩ = some (.int .i64 a1_0) := (blk_cell BS.out 0).trans rfl; have hs1 : wc.cell? ⟨gs, 1, none⟩ = some (.int .i64 a1_1) := (blk_cell BS.out 1).trans rfl) | ((with_reducible refine gate_dst (N := 13) rfl ?_); refine box_event ?hg (N := 13) ?hd (cs := #[.int .i64 0]) (t := 3) ?hr ?_; (case hd => rfl); (case hg => rfl); (case hr => first | (go_simp; done) | (go_simp; rfl)); intro gl hgl wl hbox hb; have HBs_ := HB; have BL := Aside0.mk hbox; replace BB := Aside0.mk (blk_below BB.out hb); replace BS := Aside0.mk (blk_below BS.out hb); replace BR := Aside0.mk (blk_below BR.out hb); replace HB := Aside0.mk (below_step HB.out hb); have SL := Aside0.mk (Nat.le_trans (below_size HBs_.out) (Nat.le_of_eq hgl.symm)); clear hbox hgl hb HBs_ hs0 hs1; have hl0 : wl.cell? ⟨gl, 0, none⟩ = some (.int .i64 0) := (blk_cell BL.out 0).trans rfl; have hlf : wl.frozen? ⟨gl, 0, none⟩ = false := blk_frozen BL.out 0) | ((with_reducible refine gate_store (t := 3) (p := 13) rfl ?_); refine store_event (t := 3) (p := 13) (v := .tmp 29) (w1 := (wl.setCell ⟨gl, 0, none⟩ (.int .i64 L))) ?hg ?ho ?hn ?hr ?_; (case ho => rfl); (case hg => rfl); (case hn => rfl); (case hr => first | (go_simp; done) | (go_simp; rfl)); intro wv hw; have hnb := blk_ne BB.out BL.out (by decide); have hns := blk_ne BS.out BL.out (by decide); have hnr := blk_ne BR.out BL.out (by decide); replace BL := Aside0.mk (show wv.heap[gl]? = some (.cells #[.int .i64 L] 3 (0, 0)) by subst hw; exact blk_put BL.out 0 _ rfl); replace BB := Aside0.mk (show wv.heap[gb]? = _ by subst hw; exact blk_far BB.out hnb _); replace BS := Aside0.mk (show wv.heap[gs]? = _ by subst hw; exact blk_far BS.out hns _); replace BR := Aside0.mk (show wv.heap[gr]? = _ by subst hw; exact blk_far BR.out hnr _); replace HB := Aside0.mk (show Below w.heap.size w wv by subst hw; exact below_set HB.out SL.out); clear hl0 hlf hw hnb hns hnr; have hlc : wv.cell? ⟨gl, 0, none⟩ = some (.int .i64 L) := (blk_cell BL.out 0).trans rfl; have ht0 : wv.cell? ⟨gs, 0, none⟩ = some (.int .i64 a1_0) := (blk_cell BS.out 0).trans rfl; have ht1 : wv.cell? ⟨gs, 1, none⟩ = some (.int .i64 a1_1) := (blk_cell BS.out 1).trans rfl; have hc13 : wv.cell? ⟨gb, 13, none⟩ = some (.int .i64 a0_13) := (blk_cell BB.out 13).trans rfl; have hc8 : wv.cell? ⟨gb, 8, none⟩ = some (.int .i64 a0_8) := (blk_cell BB.out 8).trans rfl) | (go_at_call 15; refine (spell_Of.clo _ L _ h13 gl _ hlc).mono ?_; rintro e wv ⟨rfl, rfl⟩) | (go_at_call 15; refine (spell_Of.clo _ L _ h8 gl _ hlc).mono ?_; rintro e wv ⟨rfl, rfl⟩))
  refine start_ (n := 20) (S := fun w' => w'.cell? ⟨gb, 10, none⟩ = some (.int .i64 a0_10) ∧ w'.cell? ⟨gb, 1, none⟩ = some (.int .i64 a0_1) ∧ w'.cell? ⟨gb, 3, none⟩ = some (.int .i64 a0_3) ∧ w'.cell? ⟨gl, 0, none⟩ = some (.int .i64 L)) (ds := [19]) #[false, false, false, false, false, false, false, false, false, false, false, false, false, false, false, false, false, false, false, false] (by kernel_rfl) rfl rfl ⟨(blk_cell BB.out 10).trans rfl, (blk_cell BB.out 1).trans rfl, (blk_cell BB.out 3).trans rfl, (blk_cell BL.out 0).trans rfl⟩ (fun hHeld => ?_)
  have BD : Aside0 (wv.drew.heap[gb]? = some (.cells #[.int .i64 a0_0, .int .i64 a0_1, .int .i64 a0_2, .int .i64 a0_3, .int .i64 a0_4, .int .i64 a0_5, .int .i64 a0_6, .int .i64 a0_7, .int .i64 a0_8, .int .i64 a0_9, .int .i64 a0_10, .int .i64 a0_11, .int .i64 a0_12, .int .i64 a0_13, .int .i64 a0_14, .int .i64 a0_15, .int .i64 a0_16, .int .i64 a0_17, .int .i64 a0_18] 23 (0, 0)) ∧ wv.drew.heap[gr]? = some (.cells #[.bool false, .bool false, .bool false, .bool false, .bool false, .bool false, .bool false] 29 (0, 0)) ∧ wv.drew.heap[gl]? = some (.cells #[.int .i64 L] 3 (0, 0)) ∧ Below w.heap.size w wv.drew) := ⟨BB.out, BR.out, BL.out, HB.out.drew⟩
  clear BB BR BL HB BS hlc ht0 ht1 hc13 hc8
  generalize wv.drew = wd at BD hHeld ⊢
  have BB := Aside0.mk BD.out.1
  have BR := Aside0.mk BD.out.2.1
  have BL := Aside0.mk BD.out.2.2.1
  have HB := Aside0.mk BD.out.2.2.2
  clear BD
  refine pure_ (i := 0) (N := some 64) (v := ?_) (a' := ?_) #[true, false, false, false, false, false, false, false, false, false, false, false, false, false, false, false, false, false, false, false] rfl rfl (by kernel_rfl) (fun _ _ _ h => h) (Or.inl ⟨by rfl, ?_⟩) ?_ ?_
  rotate_left
  · intro w'
    go_simp
    with_reducible rfl
  rotate_left
  · simp only [Act.put, List.setIfInBounds_toArray, List.set_cons_zero, List.set_cons_succ, i64_w, i32_w]
    rfl
  refine pure_ (i := 1) (N := some 65) (v := ?_) (a' := ?_) #[true, true, false, false, false, false, false, false, false, false, false, false, false, false, false, false, false, false, false, false] rfl rfl (by kernel_rfl) (fun _ _ _ h => h) (Or.inl ⟨by rfl, ?_⟩) ?_ ?_
  rotate_left
  · intro w'
    go_simp
    with_reducible rfl
  rotate_left
  · simp only [Act.put, List.setIfInBounds_toArray, List.set_cons_zero, List.set_cons_succ, i64_w, i32_w]
    rfl
  refine pure_ (i := 4) (N := some 68) (v := ?_) (a' := ?_) #[true, true, false, false, true, false, false, false, false, false, false, false, false, false, false, false, false, false, false, false] rfl rfl (by kernel_rfl) (fun _ _ _ h => h) (Or.inl ⟨by rfl, ?_⟩) ?_ ?_
  rotate_left
  · intro w'
    go_simp
    with_reducible rfl
  rotate_left
  · simp only [Act.put, List.setIfInBounds_toArray, List.set_cons_zero, List.set_cons_succ, i64_w, i32_w]
    rfl
  refine pure_ (i := 5) (N := some 69) (v := ?_) (a' := ?_) #[true, true, false, false, true, true, false, false, false, false, false, false, false, false, false, false, false, false, false, false] rfl rfl (by kernel_rfl) (fun _ _ _ h => h) (Or.inl ⟨by rfl, ?_⟩) ?_ ?_
  rotate_left
  · intro w'
    go_simp
    with_reducible rfl
  rotate_left
  · simp only [Act.put, List.setIfInBounds_toArray, List.set_cons_zero, List.set_cons_succ, i64_w, i32_w]
    rfl
  refine take_ (i := 2) (N := some 66) (v := ?_) (a' := ?_) #[true, true, true, false, true, true, false, false, false, false, false, false, false, false, false, false, false, false, false, false] rfl rfl (by kernel_rfl) (fun _ _ _ h => h) (Or.inl ⟨by rfl, ?_⟩) hHeld ?_ ?_
  rotate_left
  · rintro w' ⟨s0, s1, s2, s3⟩
    go_simp
    with_reducible rfl
  rotate_left
  · simp only [Act.put, List.setIfInBounds_toArray, List.set_cons_zero, List.set_cons_succ, i64_w, i32_w]
    rfl
  refine take_ (i := 6) (N := some 70) (v := ?_) (a' := ?_) #[true, true, true, false, true, true, true, false, false, false, false, false, false, false, false, false, false, false, false, false] rfl rfl (by kernel_rfl) (fun _ _ _ h => h) (Or.inl ⟨by rfl, ?_⟩) hHeld ?_ ?_
  rotate_left
  · rintro w' ⟨s0, s1, s2, s3⟩
    go_simp
    with_reducible rfl
  rotate_left
  · simp only [Act.put, List.setIfInBounds_toArray, List.set_cons_zero, List.set_cons_succ, i64_w, i32_w]
    rfl
  refine join_ (σ := Nat) 1 #[true, true, true, true, true, true, true, true, true, true, true, true, true, true, true, true, true, true, true, false] (fun s => [(67, .bool b10), (71, .bool false), (72, .bool false), (73, .bool true), (74, .bool true), (75, .func (.func 15) #[] #[.pointer (some ⟨gl, 0, none⟩)]), (76, .pointer (some ⟨gb, 3, none⟩)), (77, .int .i64 a0_3), (78, .bool true), (79, .bool true), (80, .bool true), (81, .agg #[.bool true, .bool false, .bool b10, .bool false, .bool false, .bool false, .bool false]), (16, .pointer (some ⟨s, 0, none⟩))]) (fun s w' => w'.heap[s]? = some (.cells #[.bool false, .bool false, .bool false, .bool false, .bool false, .bool false, .bool false] 29 (0, 0)) ∧ (gr ≠ s ∧ gl ≠ s ∧ gb ≠ s ∧ w.heap.size ≤ s) ∧ w'.heap[gb]? = some (.cells #[.int .i64 a0_0, .int .i64 a0_1, .int .i64 a0_2, .int .i64 a0_3, .int .i64 a0_4, .int .i64 a0_5, .int .i64 a0_6, .int .i64 a0_7, .int .i64 a0_8, .int .i64 a0_9, .int .i64 a0_10, .int .i64 a0_11, .int .i64 a0_12, .int .i64 a0_13, .int .i64 a0_14, .int .i64 a0_15, .int .i64 a0_16, .int .i64 a0_17, .int .i64 a0_18] 23 (0, 0)) ∧ w'.heap[gr]? = some (.cells #[.bool false, .bool false, .bool false, .bool false, .bool false, .bool false, .bool false] 29 (0, 0)) ∧ w'.heap[gl]? = some (.cells #[.int .i64 L] 3 (0, 0)) ∧ Below w.heap.size w w') ?_ ?_
  rotate_left
  · intro hCont
    refine two_ (i := 3) (j := 18) (Ni := some 67) (Nj := some 16) #[true, true, true, true, true, true, true, false, false, false, false, false, false, false, false, false, false, false, false, false] #[true, true, true, false, true, true, true, false, false, false, false, false, false, false, false, false, false, false, true, false] rfl rfl rfl rfl (by kernel_rfl) (by decide) (by decide) (fun K hK => ?_) (fun K hK => ?_)
    · skip
      refine call_ 15 #[.int .i64 a0_10, .pointer (some ⟨gl, 0, none⟩)] (by rfl) rfl (by first | (go_simp; done) | (go_simp; rfl)) ?_
      with_reducible refine (spell_Of.clo _ L _ h10 gl _ ((blk_cell BL.out 0).trans rfl)).mono ?_
      rintro e wd ⟨rfl, rfl⟩
      refine ⟨_, rfl, ?_⟩
      refine hK.out _ _ ⟨(blk_cell BB.out 10).trans rfl, (blk_cell BB.out 1).trans rfl, (blk_cell BB.out 3).trans rfl, (blk_cell BL.out 0).trans rfl⟩ (fun hHeld => ?_)
      clear hK K
      refine norm_ (a' := ?_) ?_ ?_
      rotate_left
      · show Act.put _ (some 67) _ = _
        simp only [Act.put, List.setIfInBounds_toArray, List.set_cons_zero, List.set_cons_succ, i64_w, i32_w]
        rfl
      refine two_ (i := 7) (j := 18) (Ni := some 71) (Nj := some 16) #[true, true, true, true, true, true, true, true, false, false, false, false, false, false, false, false, false, false, false, false] #[true, true, true, true, true, true, true, false, false, false, false, false, false, false, false, false, false, false, true, false] rfl rfl rfl rfl (by kernel_rfl) (by decide) (by decide) (fun K hK => ?_) (fun K hK => ?_)
      · skip
        refine call_ 15 #[.int .i64 a0_1, .pointer (some ⟨gl, 0, none⟩)] (by rfl) rfl (by first | (go_simp; done) | (go_simp; rfl)) ?_
        with_reducible refine (spell_Of.clo _ L _ h1 gl _ ((blk_cell BL.out 0).trans rfl)).mono ?_
        rintro e wd ⟨rfl, rfl⟩
        refine ⟨_, rfl, ?_⟩
        refine hK.out _ _ ⟨(blk_cell BB.out 10).trans rfl, (blk_cell BB.out 1).trans rfl, (blk_cell BB.out 3).trans rfl, (blk_cell BL.out 0).trans rfl⟩ (fun hHeld => ?_)
        clear hK K
        refine norm_ (a' := ?_) ?_ ?_
        rotate_left
        · show Act.put _ (some 71) _ = _
          simp only [Act.put, List.setIfInBounds_toArray, List.set_cons_zero, List.set_cons_succ, i64_w, i32_w]
          rfl
        refine pure_ (i := 8) (N := some 72) (v := ?_) (a' := ?_) #[true, true, true, true, true, true, true, true, true, false, false, false, false, false, false, false, false, false, false, false] rfl rfl (by kernel_rfl) (fun _ _ _ h => h) (Or.inl ⟨by rfl, ?_⟩) ?_ ?_
        rotate_left
        · intro w'
          go_simp
          with_reducible rfl
        rotate_left
        · simp only [Act.put, List.setIfInBounds_toArray, List.set_cons_zero, List.set_cons_succ, i64_w, i32_w]
          rfl
        refine pure_ (i := 9) (N := some 73) (v := ?_) (a' := ?_) #[true, true, true, true, true, true, true, true, true, true, false, false, false, false, false, false, false, false, false, false] rfl rfl (by kernel_rfl) (fun _ _ _ h => h) (Or.inl ⟨by rfl, ?_⟩) ?_ ?_
        rotate_left
        · intro w'
          go_simp
          with_reducible rfl
        rotate_left
        · simp only [Act.put, List.setIfInBounds_toArray, List.set_cons_zero, List.set_cons_succ, i64_w, i32_w]
          rfl
        refine pure_ (i := 10) (N := some 74) (v := ?_) (a' := ?_) #[true, true, true, true, true, true, true, true, true, true, true, false, false, false, false, false, false, false, false, false] rfl rfl (by kernel_rfl) (fun _ _ _ h => h) (Or.inl ⟨by rfl, ?_⟩) ?_ ?_
        rotate_left
        · intro w'
          go_simp
          with_reducible rfl
        rotate_left
        · simp only [Act.put, List.setIfInBounds_toArray, List.set_cons_zero, List.set_cons_succ, i64_w, i32_w]
          rfl
        refine pure_ (i := 11) (N := some 75) (v := ?_) (a' := ?_) #[true, true, true, true, true, true, true, true, true, true, true, true, false, false, false, false, false, false, false, false] rfl rfl (by kernel_rfl) (fun _ _ _ h => h) (Or.inl ⟨by rfl, ?_⟩) ?_ ?_
        rotate_left
        · intro w'
          go_simp
          with_reducible rfl
        rotate_left
        · simp only [Act.put, List.setIfInBounds_toArray, List.set_cons_zero, List.set_cons_succ, i64_w, i32_w]
          rfl
        refine pure_ (i := 12) (N := some 76) (v := ?_) (a' := ?_) #[true, true, true, true, true, true, true, true, true, true, true, true, true, false, false, false, false, false, false, false] rfl rfl (by kernel_rfl) (fun _ _ _ h => h) (Or.inl ⟨by rfl, ?_⟩) ?_ ?_
        rotate_left
        · intro w'
          go_simp
          with_reducible rfl
        rotate_left
        · simp only [Act.put, List.setIfInBounds_toArray, List.set_cons_zero, List.set_cons_succ, i64_w, i32_w]
          rfl
        refine take_ (i := 13) (N := some 77) (v := ?_) (a' := ?_) #[true, true, true, true, true, true, true, true, true, true, true, true, true, true, false, false, false, false, false, false] rfl rfl (by kernel_rfl) (fun _ _ _ h => h) (Or.inl ⟨by rfl, ?_⟩) hHeld ?_ ?_
        rotate_left
        · rintro w' ⟨s0, s1, s2, s3⟩
          go_simp
          with_reducible rfl
        rotate_left
        · simp only [Act.put, List.setIfInBounds_toArray, List.set_cons_zero, List.set_cons_succ, i64_w, i32_w]
          rfl
        refine two_ (i := 14) (j := 18) (Ni := some 78) (Nj := some 16) #[true, true, true, true, true, true, true, true, true, true, true, true, true, true, true, false, false, false, false, false] #[true, true, true, true, true, true, true, true, true, true, true, true, true, true, false, false, false, false, true, false] rfl rfl rfl rfl (by kernel_rfl) (by decide) (by decide) (fun K hK => ?_) (fun K hK => ?_)
        · skip
          refine call_ 15 #[.int .i64 a0_3, .pointer (some ⟨gl, 0, none⟩)] (by rfl) rfl (by first | (go_simp; done) | (go_simp; rfl)) ?_
          with_reducible refine (spell_Of.clo _ L _ h3 gl _ ((blk_cell BL.out 0).trans rfl)).mono ?_
          rintro e wd ⟨rfl, rfl⟩
          refine ⟨_, rfl, ?_⟩
          refine hK.out _ _ ⟨(blk_cell BB.out 10).trans rfl, (blk_cell BB.out 1).trans rfl, (blk_cell BB.out 3).trans rfl, (blk_cell BL.out 0).trans rfl⟩ (fun hHeld => ?_)
          clear hK K
          refine norm_ (a' := ?_) ?_ ?_
          rotate_left
          · show Act.put _ (some 78) _ = _
            simp only [Act.put, List.setIfInBounds_toArray, List.set_cons_zero, List.set_cons_succ, i64_w, i32_w]
            rfl
          refine pure_ (i := 15) (N := some 79) (v := ?_) (a' := ?_) #[true, true, true, true, true, true, true, true, true, true, true, true, true, true, true, true, false, false, false, false] rfl rfl (by kernel_rfl) (fun _ _ _ h => h) (Or.inl ⟨by rfl, ?_⟩) ?_ ?_
          rotate_left
          · intro w'
            go_simp
            with_reducible rfl
          rotate_left
          · simp only [Act.put, List.setIfInBounds_toArray, List.set_cons_zero, List.set_cons_succ, i64_w, i32_w]
            rfl
          refine pure_ (i := 16) (N := some 80) (v := ?_) (a' := ?_) #[true, true, true, true, true, true, true, true, true, true, true, true, true, true, true, true, true, false, false, false] rfl rfl (by kernel_rfl) (fun _ _ _ h => h) (Or.inl ⟨by rfl, ?_⟩) ?_ ?_
          rotate_left
          · intro w'
            go_simp
            with_reducible rfl
          rotate_left
          · simp only [Act.put, List.setIfInBounds_toArray, List.set_cons_zero, List.set_cons_succ, i64_w, i32_w]
            rfl
          refine pure_ (i := 17) (N := some 81) (v := ?_) (a' := ?_) #[true, true, true, true, true, true, true, true, true, true, true, true, true, true, true, true, true, true, false, false] rfl rfl (by kernel_rfl) (fun _ _ _ h => h) (Or.inl ⟨by rfl, ?_⟩) ?_ ?_
          rotate_left
          · intro w'
            go_simp
            with_reducible rfl
          rotate_left
          · simp only [Act.put, List.setIfInBounds_toArray, List.set_cons_zero, List.set_cons_succ, i64_w, i32_w]
            rfl
          refine one_ (i := 18) (N := some 16) #[true, true, true, true, true, true, true, true, true, true, true, true, true, true, true, true, true, true, true, false] rfl rfl (by kernel_rfl) (by decide) (fun K hK => ?_)
          refine value_ (w1 := ?_) (v := ?_) (by rfl) rfl ?_ ?_
          rotate_left 2
          · go_simp
            constructor
            · rfl
            · rfl
          refine hK.out _ _ ⟨(blk_cell (Aside0.mk (blk_alloc BB.out _)).out 10).trans rfl, (blk_cell (Aside0.mk (blk_alloc BB.out _)).out 1).trans rfl, (blk_cell (Aside0.mk (blk_alloc BB.out _)).out 3).trans rfl, (blk_cell (Aside0.mk (blk_alloc BL.out _)).out 0).trans rfl⟩ (fun hHeld => ?_)
          clear hK K
          refine norm_ (a' := ?_) ?_ ?_
          rotate_left
          · show Act.put _ (some 16) _ = _
            simp only [Act.put, List.setIfInBounds_toArray, List.set_cons_zero, List.set_cons_succ, i64_w, i32_w]
            rfl
          exact norm_ (by simp only [putAll, Act.put, List.setIfInBounds_toArray, List.set_cons_zero, List.set_cons_succ]) (hCont wd.heap.size _ ⟨blk_new _ _, ⟨Nat.ne_of_lt (blk_lt BR.out), Nat.ne_of_lt (blk_lt BL.out), Nat.ne_of_lt (blk_lt BB.out), below_size HB.out⟩, blk_alloc BB.out _, blk_alloc BR.out _, blk_alloc BL.out _, below_alloc HB.out _⟩)
        · skip
          refine value_ (w1 := ?_) (v := ?_) (by rfl) rfl ?_ ?_
          rotate_left 2
          · go_simp
            constructor
            · rfl
            · rfl
          refine hK.out _ _ ⟨(blk_cell (Aside0.mk (blk_alloc BB.out _)).out 10).trans rfl, (blk_cell (Aside0.mk (blk_alloc BB.out _)).out 1).trans rfl, (blk_cell (Aside0.mk (blk_alloc BB.out _)).out 3).trans rfl, (blk_cell (Aside0.mk (blk_alloc BL.out _)).out 0).trans rfl⟩ (fun hHeld => ?_)
          clear hK K
          refine norm_ (a' := ?_) ?_ ?_
          rotate_left
          · show Act.put _ (some 16) _ = _
            simp only [Act.put, List.setIfInBounds_toArray, List.set_cons_zero, List.set_cons_succ, i64_w, i32_w]
            rfl
          refine one_ (i := 14) (N := some 78) #[true, true, true, true, true, true, true, true, true, true, true, true, true, true, true, false, false, false, true, false] rfl rfl (by kernel_rfl) (by decide) (fun K hK => ?_)
          refine call_ 15 #[.int .i64 a0_3, .pointer (some ⟨gl, 0, none⟩)] (by rfl) rfl (by first | (go_simp; done) | (go_simp; rfl)) ?_
          with_reducible refine (spell_Of.clo _ L _ h3 gl _ ((blk_cell (Aside0.mk (blk_alloc BL.out _)).out 0).trans rfl)).mono ?_
          rintro e wd ⟨rfl, rfl⟩
          refine ⟨_, rfl, ?_⟩
          refine hK.out _ _ ⟨(blk_cell (Aside0.mk (blk_alloc BB.out _)).out 10).trans rfl, (blk_cell (Aside0.mk (blk_alloc BB.out _)).out 1).trans rfl, (blk_cell (Aside0.mk (blk_alloc BB.out _)).out 3).trans rfl, (blk_cell (Aside0.mk (blk_alloc BL.out _)).out 0).trans rfl⟩ (fun hHeld => ?_)
          clear hK K
          refine norm_ (a' := ?_) ?_ ?_
          rotate_left
          · show Act.put _ (some 78) _ = _
            simp only [Act.put, List.setIfInBounds_toArray, List.set_cons_zero, List.set_cons_succ, i64_w, i32_w]
            rfl
          refine pure_ (i := 15) (N := some 79) (v := ?_) (a' := ?_) #[true, true, true, true, true, true, true, true, true, true, true, true, true, true, true, true, false, false, true, false] rfl rfl (by kernel_rfl) (fun _ _ _ h => h) (Or.inl ⟨by rfl, ?_⟩) ?_ ?_
          rotate_left
          · intro w'
            go_simp
            with_reducible rfl
          rotate_left
          · simp only [Act.put, List.setIfInBounds_toArray, List.set_cons_zero, List.set_cons_succ, i64_w, i32_w]
            rfl
          refine pure_ (i := 16) (N := some 80) (v := ?_) (a' := ?_) #[true, true, true, true, true, true, true, true, true, true, true, true, true, true, true, true, true, false, true, false] rfl rfl (by kernel_rfl) (fun _ _ _ h => h) (Or.inl ⟨by rfl, ?_⟩) ?_ ?_
          rotate_left
          · intro w'
            go_simp
            with_reducible rfl
          rotate_left
          · simp only [Act.put, List.setIfInBounds_toArray, List.set_cons_zero, List.set_cons_succ, i64_w, i32_w]
            rfl
          refine pure_ (i := 17) (N := some 81) (v := ?_) (a' := ?_) #[true, true, true, true, true, true, true, true, true, true, true, true, true, true, true, true, true, true, true, false] rfl rfl (by kernel_rfl) (fun _ _ _ h => h) (Or.inl ⟨by rfl, ?_⟩) ?_ ?_
          rotate_left
          · intro w'
            go_simp
            with_reducible rfl
          rotate_left
          · simp only [Act.put, List.setIfInBounds_toArray, List.set_cons_zero, List.set_cons_succ, i64_w, i32_w]
            rfl
          exact norm_ (by simp only [putAll, Act.put, List.setIfInBounds_toArray, List.set_cons_zero, List.set_cons_succ]) (hCont wd.heap.size _ ⟨blk_new _ _, ⟨Nat.ne_of_lt (blk_lt BR.out), Nat.ne_of_lt (blk_lt BL.out), Nat.ne_of_lt (blk_lt BB.out), below_size HB.out⟩, blk_alloc BB.out _, blk_alloc BR.out _, blk_alloc BL.out _, below_alloc HB.out _⟩)
      · skip
        refine value_ (w1 := ?_) (v := ?_) (by rfl) rfl ?_ ?_
        rotate_left 2
        · go_simp
          constructor
          · rfl
          · rfl
        refine hK.out _ _ ⟨(blk_cell (Aside0.mk (blk_alloc BB.out _)).out 10).trans rfl, (blk_cell (Aside0.mk (blk_alloc BB.out _)).out 1).trans rfl, (blk_cell (Aside0.mk (blk_alloc BB.out _)).out 3).trans rfl, (blk_cell (Aside0.mk (blk_alloc BL.out _)).out 0).trans rfl⟩ (fun hHeld => ?_)
        clear hK K
        refine norm_ (a' := ?_) ?_ ?_
        rotate_left
        · show Act.put _ (some 16) _ = _
          simp only [Act.put, List.setIfInBounds_toArray, List.set_cons_zero, List.set_cons_succ, i64_w, i32_w]
          rfl
        refine one_ (i := 7) (N := some 71) #[true, true, true, true, true, true, true, true, false, false, false, false, false, false, false, false, false, false, true, false] rfl rfl (by kernel_rfl) (by decide) (fun K hK => ?_)
        refine call_ 15 #[.int .i64 a0_1, .pointer (some ⟨gl, 0, none⟩)] (by rfl) rfl (by first | (go_simp; done) | (go_simp; rfl)) ?_
        with_reducible refine (spell_Of.clo _ L _ h1 gl _ ((blk_cell (Aside0.mk (blk_alloc BL.out _)).out 0).trans rfl)).mono ?_
        rintro e wd ⟨rfl, rfl⟩
        refine ⟨_, rfl, ?_⟩
        refine hK.out _ _ ⟨(blk_cell (Aside0.mk (blk_alloc BB.out _)).out 10).trans rfl, (blk_cell (Aside0.mk (blk_alloc BB.out _)).out 1).trans rfl, (blk_cell (Aside0.mk (blk_alloc BB.out _)).out 3).trans rfl, (blk_cell (Aside0.mk (blk_alloc BL.out _)).out 0).trans rfl⟩ (fun hHeld => ?_)
        clear hK K
        refine norm_ (a' := ?_) ?_ ?_
        rotate_left
        · show Act.put _ (some 71) _ = _
          simp only [Act.put, List.setIfInBounds_toArray, List.set_cons_zero, List.set_cons_succ, i64_w, i32_w]
          rfl
        refine pure_ (i := 8) (N := some 72) (v := ?_) (a' := ?_) #[true, true, true, true, true, true, true, true, true, false, false, false, false, false, false, false, false, false, true, false] rfl rfl (by kernel_rfl) (fun _ _ _ h => h) (Or.inl ⟨by rfl, ?_⟩) ?_ ?_
        rotate_left
        · intro w'
          go_simp
          with_reducible rfl
        rotate_left
        · simp only [Act.put, List.setIfInBounds_toArray, List.set_cons_zero, List.set_cons_succ, i64_w, i32_w]
          rfl
        refine pure_ (i := 9) (N := some 73) (v := ?_) (a' := ?_) #[true, true, true, true, true, true, true, true, true, true, false, false, false, false, false, false, false, false, true, false] rfl rfl (by kernel_rfl) (fun _ _ _ h => h) (Or.inl ⟨by rfl, ?_⟩) ?_ ?_
        rotate_left
        · intro w'
          go_simp
          with_reducible rfl
        rotate_left
        · simp only [Act.put, List.setIfInBounds_toArray, List.set_cons_zero, List.set_cons_succ, i64_w, i32_w]
          rfl
        refine pure_ (i := 10) (N := some 74) (v := ?_) (a' := ?_) #[true, true, true, true, true, true, true, true, true, true, true, false, false, false, false, false, false, false, true, false] rfl rfl (by kernel_rfl) (fun _ _ _ h => h) (Or.inl ⟨by rfl, ?_⟩) ?_ ?_
        rotate_left
        · intro w'
          go_simp
          with_reducible rfl
        rotate_left
        · simp only [Act.put, List.setIfInBounds_toArray, List.set_cons_zero, List.set_cons_succ, i64_w, i32_w]
          rfl
        refine pure_ (i := 11) (N := some 75) (v := ?_) (a' := ?_) #[true, true, true, true, true, true, true, true, true, true, true, true, false, false, false, false, false, false, true, false] rfl rfl (by kernel_rfl) (fun _ _ _ h => h) (Or.inl ⟨by rfl, ?_⟩) ?_ ?_
        rotate_left
        · intro w'
          go_simp
          with_reducible rfl
        rotate_left
        · simp only [Act.put, List.setIfInBounds_toArray, List.set_cons_zero, List.set_cons_succ, i64_w, i32_w]
          rfl
        refine pure_ (i := 12) (N := some 76) (v := ?_) (a' := ?_) #[true, true, true, true, true, true, true, true, true, true, true, true, true, false, false, false, false, false, true, false] rfl rfl (by kernel_rfl) (fun _ _ _ h => h) (Or.inl ⟨by rfl, ?_⟩) ?_ ?_
        rotate_left
        · intro w'
          go_simp
          with_reducible rfl
        rotate_left
        · simp only [Act.put, List.setIfInBounds_toArray, List.set_cons_zero, List.set_cons_succ, i64_w, i32_w]
          rfl
        refine take_ (i := 13) (N := some 77) (v := ?_) (a' := ?_) #[true, true, true, true, true, true, true, true, true, true, true, true, true, true, false, false, false, false, true, false] rfl rfl (by kernel_rfl) (fun _ _ _ h => h) (Or.inl ⟨by rfl, ?_⟩) hHeld ?_ ?_
        rotate_left
        · rintro w' ⟨s0, s1, s2, s3⟩
          go_simp
          with_reducible rfl
        rotate_left
        · simp only [Act.put, List.setIfInBounds_toArray, List.set_cons_zero, List.set_cons_succ, i64_w, i32_w]
          rfl
        refine one_ (i := 14) (N := some 78) #[true, true, true, true, true, true, true, true, true, true, true, true, true, true, true, false, false, false, true, false] rfl rfl (by kernel_rfl) (by decide) (fun K hK => ?_)
        refine call_ 15 #[.int .i64 a0_3, .pointer (some ⟨gl, 0, none⟩)] (by rfl) rfl (by first | (go_simp; done) | (go_simp; rfl)) ?_
        with_reducible refine (spell_Of.clo _ L _ h3 gl _ ((blk_cell (Aside0.mk (blk_alloc BL.out _)).out 0).trans rfl)).mono ?_
        rintro e wd ⟨rfl, rfl⟩
        refine ⟨_, rfl, ?_⟩
        refine hK.out _ _ ⟨(blk_cell (Aside0.mk (blk_alloc BB.out _)).out 10).trans rfl, (blk_cell (Aside0.mk (blk_alloc BB.out _)).out 1).trans rfl, (blk_cell (Aside0.mk (blk_alloc BB.out _)).out 3).trans rfl, (blk_cell (Aside0.mk (blk_alloc BL.out _)).out 0).trans rfl⟩ (fun hHeld => ?_)
        clear hK K
        refine norm_ (a' := ?_) ?_ ?_
        rotate_left
        · show Act.put _ (some 78) _ = _
          simp only [Act.put, List.setIfInBounds_toArray, List.set_cons_zero, List.set_cons_succ, i64_w, i32_w]
          rfl
        refine pure_ (i := 15) (N := some 79) (v := ?_) (a' := ?_) #[true, true, true, true, true, true, true, true, true, true, true, true, true, true, true, true, false, false, true, false] rfl rfl (by kernel_rfl) (fun _ _ _ h => h) (Or.inl ⟨by rfl, ?_⟩) ?_ ?_
        rotate_left
        · intro w'
          go_simp
          with_reducible rfl
        rotate_left
        · simp only [Act.put, List.setIfInBounds_toArray, List.set_cons_zero, List.set_cons_succ, i64_w, i32_w]
          rfl
        refine pure_ (i := 16) (N := some 80) (v := ?_) (a' := ?_) #[true, true, true, true, true, true, true, true, true, true, true, true, true, true, true, true, true, false, true, false] rfl rfl (by kernel_rfl) (fun _ _ _ h => h) (Or.inl ⟨by rfl, ?_⟩) ?_ ?_
        rotate_left
        · intro w'
          go_simp
          with_reducible rfl
        rotate_left
        · simp only [Act.put, List.setIfInBounds_toArray, List.set_cons_zero, List.set_cons_succ, i64_w, i32_w]
          rfl
        refine pure_ (i := 17) (N := some 81) (v := ?_) (a' := ?_) #[true, true, true, true, true, true, true, true, true, true, true, true, true, true, true, true, true, true, true, false] rfl rfl (by kernel_rfl) (fun _ _ _ h => h) (Or.inl ⟨by rfl, ?_⟩) ?_ ?_
        rotate_left
        · intro w'
          go_simp
          with_reducible rfl
        rotate_left
        · simp only [Act.put, List.setIfInBounds_toArray, List.set_cons_zero, List.set_cons_succ, i64_w, i32_w]
          rfl
        exact norm_ (by simp only [putAll, Act.put, List.setIfInBounds_toArray, List.set_cons_zero, List.set_cons_succ]) (hCont wd.heap.size _ ⟨blk_new _ _, ⟨Nat.ne_of_lt (blk_lt BR.out), Nat.ne_of_lt (blk_lt BL.out), Nat.ne_of_lt (blk_lt BB.out), below_size HB.out⟩, blk_alloc BB.out _, blk_alloc BR.out _, blk_alloc BL.out _, below_alloc HB.out _⟩)
    · skip
      refine value_ (w1 := ?_) (v := ?_) (by rfl) rfl ?_ ?_
      rotate_left 2
      · go_simp
        constructor
        · rfl
        · rfl
      refine hK.out _ _ ⟨(blk_cell (Aside0.mk (blk_alloc BB.out _)).out 10).trans rfl, (blk_cell (Aside0.mk (blk_alloc BB.out _)).out 1).trans rfl, (blk_cell (Aside0.mk (blk_alloc BB.out _)).out 3).trans rfl, (blk_cell (Aside0.mk (blk_alloc BL.out _)).out 0).trans rfl⟩ (fun hHeld => ?_)
      clear hK K
      refine norm_ (a' := ?_) ?_ ?_
      rotate_left
      · show Act.put _ (some 16) _ = _
        simp only [Act.put, List.setIfInBounds_toArray, List.set_cons_zero, List.set_cons_succ, i64_w, i32_w]
        rfl
      refine one_ (i := 3) (N := some 67) #[true, true, true, true, true, true, true, false, false, false, false, false, false, false, false, false, false, false, true, false] rfl rfl (by kernel_rfl) (by decide) (fun K hK => ?_)
      refine call_ 15 #[.int .i64 a0_10, .pointer (some ⟨gl, 0, none⟩)] (by rfl) rfl (by first | (go_simp; done) | (go_simp; rfl)) ?_
      with_reducible refine (spell_Of.clo _ L _ h10 gl _ ((blk_cell (Aside0.mk (blk_alloc BL.out _)).out 0).trans rfl)).mono ?_
      rintro e wd ⟨rfl, rfl⟩
      refine ⟨_, rfl, ?_⟩
      refine hK.out _ _ ⟨(blk_cell (Aside0.mk (blk_alloc BB.out _)).out 10).trans rfl, (blk_cell (Aside0.mk (blk_alloc BB.out _)).out 1).trans rfl, (blk_cell (Aside0.mk (blk_alloc BB.out _)).out 3).trans rfl, (blk_cell (Aside0.mk (blk_alloc BL.out _)).out 0).trans rfl⟩ (fun hHeld => ?_)
      clear hK K
      refine norm_ (a' := ?_) ?_ ?_
      rotate_left
      · show Act.put _ (some 67) _ = _
        simp only [Act.put, List.setIfInBounds_toArray, List.set_cons_zero, List.set_cons_succ, i64_w, i32_w]
        rfl
      refine one_ (i := 7) (N := some 71) #[true, true, true, true, true, true, true, true, false, false, false, false, false, false, false, false, false, false, true, false] rfl rfl (by kernel_rfl) (by decide) (fun K hK => ?_)
      refine call_ 15 #[.int .i64 a0_1, .pointer (some ⟨gl, 0, none⟩)] (by rfl) rfl (by first | (go_simp; done) | (go_simp; rfl)) ?_
      with_reducible refine (spell_Of.clo _ L _ h1 gl _ ((blk_cell (Aside0.mk (blk_alloc BL.out _)).out 0).trans rfl)).mono ?_
      rintro e wd ⟨rfl, rfl⟩
      refine ⟨_, rfl, ?_⟩
      refine hK.out _ _ ⟨(blk_cell (Aside0.mk (blk_alloc BB.out _)).out 10).trans rfl, (blk_cell (Aside0.mk (blk_alloc BB.out _)).out 1).trans rfl, (blk_cell (Aside0.mk (blk_alloc BB.out _)).out 3).trans rfl, (blk_cell (Aside0.mk (blk_alloc BL.out _)).out 0).trans rfl⟩ (fun hHeld => ?_)
      clear hK K
      refine norm_ (a' := ?_) ?_ ?_
      rotate_left
      · show Act.put _ (some 71) _ = _
        simp only [Act.put, List.setIfInBounds_toArray, List.set_cons_zero, List.set_cons_succ, i64_w, i32_w]
        rfl
      refine pure_ (i := 8) (N := some 72) (v := ?_) (a' := ?_) #[true, true, true, true, true, true, true, true, true, false, false, false, false, false, false, false, false, false, true, false] rfl rfl (by kernel_rfl) (fun _ _ _ h => h) (Or.inl ⟨by rfl, ?_⟩) ?_ ?_
      rotate_left
      · intro w'
        go_simp
        with_reducible rfl
      rotate_left
      · simp only [Act.put, List.setIfInBounds_toArray, List.set_cons_zero, List.set_cons_succ, i64_w, i32_w]
        rfl
      refine pure_ (i := 9) (N := some 73) (v := ?_) (a' := ?_) #[true, true, true, true, true, true, true, true, true, true, false, false, false, false, false, false, false, false, true, false] rfl rfl (by kernel_rfl) (fun _ _ _ h => h) (Or.inl ⟨by rfl, ?_⟩) ?_ ?_
      rotate_left
      · intro w'
        go_simp
        with_reducible rfl
      rotate_left
      · simp only [Act.put, List.setIfInBounds_toArray, List.set_cons_zero, List.set_cons_succ, i64_w, i32_w]
        rfl
      refine pure_ (i := 10) (N := some 74) (v := ?_) (a' := ?_) #[true, true, true, true, true, true, true, true, true, true, true, false, false, false, false, false, false, false, true, false] rfl rfl (by kernel_rfl) (fun _ _ _ h => h) (Or.inl ⟨by rfl, ?_⟩) ?_ ?_
      rotate_left
      · intro w'
        go_simp
        with_reducible rfl
      rotate_left
      · simp only [Act.put, List.setIfInBounds_toArray, List.set_cons_zero, List.set_cons_succ, i64_w, i32_w]
        rfl
      refine pure_ (i := 11) (N := some 75) (v := ?_) (a' := ?_) #[true, true, true, true, true, true, true, true, true, true, true, true, false, false, false, false, false, false, true, false] rfl rfl (by kernel_rfl) (fun _ _ _ h => h) (Or.inl ⟨by rfl, ?_⟩) ?_ ?_
      rotate_left
      · intro w'
        go_simp
        with_reducible rfl
      rotate_left
      · simp only [Act.put, List.setIfInBounds_toArray, List.set_cons_zero, List.set_cons_succ, i64_w, i32_w]
        rfl
      refine pure_ (i := 12) (N := some 76) (v := ?_) (a' := ?_) #[true, true, true, true, true, true, true, true, true, true, true, true, true, false, false, false, false, false, true, false] rfl rfl (by kernel_rfl) (fun _ _ _ h => h) (Or.inl ⟨by rfl, ?_⟩) ?_ ?_
      rotate_left
      · intro w'
        go_simp
        with_reducible rfl
      rotate_left
      · simp only [Act.put, List.setIfInBounds_toArray, List.set_cons_zero, List.set_cons_succ, i64_w, i32_w]
        rfl
      refine take_ (i := 13) (N := some 77) (v := ?_) (a' := ?_) #[true, true, true, true, true, true, true, true, true, true, true, true, true, true, false, false, false, false, true, false] rfl rfl (by kernel_rfl) (fun _ _ _ h => h) (Or.inl ⟨by rfl, ?_⟩) hHeld ?_ ?_
      rotate_left
      · rintro w' ⟨s0, s1, s2, s3⟩
        go_simp
        with_reducible rfl
      rotate_left
      · simp only [Act.put, List.setIfInBounds_toArray, List.set_cons_zero, List.set_cons_succ, i64_w, i32_w]
        rfl
      refine one_ (i := 14) (N := some 78) #[true, true, true, true, true, true, true, true, true, true, true, true, true, true, true, false, false, false, true, false] rfl rfl (by kernel_rfl) (by decide) (fun K hK => ?_)
      refine call_ 15 #[.int .i64 a0_3, .pointer (some ⟨gl, 0, none⟩)] (by rfl) rfl (by first | (go_simp; done) | (go_simp; rfl)) ?_
      with_reducible refine (spell_Of.clo _ L _ h3 gl _ ((blk_cell (Aside0.mk (blk_alloc BL.out _)).out 0).trans rfl)).mono ?_
      rintro e wd ⟨rfl, rfl⟩
      refine ⟨_, rfl, ?_⟩
      refine hK.out _ _ ⟨(blk_cell (Aside0.mk (blk_alloc BB.out _)).out 10).trans rfl, (blk_cell (Aside0.mk (blk_alloc BB.out _)).out 1).trans rfl, (blk_cell (Aside0.mk (blk_alloc BB.out _)).out 3).trans rfl, (blk_cell (Aside0.mk (blk_alloc BL.out _)).out 0).trans rfl⟩ (fun hHeld => ?_)
      clear hK K
      refine norm_ (a' := ?_) ?_ ?_
      rotate_left
      · show Act.put _ (some 78) _ = _
        simp only [Act.put, List.setIfInBounds_toArray, List.set_cons_zero, List.set_cons_succ, i64_w, i32_w]
        rfl
      refine pure_ (i := 15) (N := some 79) (v := ?_) (a' := ?_) #[true, true, true, true, true, true, true, true, true, true, true, true, true, true, true, true, false, false, true, false] rfl rfl (by kernel_rfl) (fun _ _ _ h => h) (Or.inl ⟨by rfl, ?_⟩) ?_ ?_
      rotate_left
      · intro w'
        go_simp
        with_reducible rfl
      rotate_left
      · simp only [Act.put, List.setIfInBounds_toArray, List.set_cons_zero, List.set_cons_succ, i64_w, i32_w]
        rfl
      refine pure_ (i := 16) (N := some 80) (v := ?_) (a' := ?_) #[true, true, true, true, true, true, true, true, true, true, true, true, true, true, true, true, true, false, true, false] rfl rfl (by kernel_rfl) (fun _ _ _ h => h) (Or.inl ⟨by rfl, ?_⟩) ?_ ?_
      rotate_left
      · intro w'
        go_simp
        with_reducible rfl
      rotate_left
      · simp only [Act.put, List.setIfInBounds_toArray, List.set_cons_zero, List.set_cons_succ, i64_w, i32_w]
        rfl
      refine pure_ (i := 17) (N := some 81) (v := ?_) (a' := ?_) #[true, true, true, true, true, true, true, true, true, true, true, true, true, true, true, true, true, true, true, false] rfl rfl (by kernel_rfl) (fun _ _ _ h => h) (Or.inl ⟨by rfl, ?_⟩) ?_ ?_
      rotate_left
      · intro w'
        go_simp
        with_reducible rfl
      rotate_left
      · simp only [Act.put, List.setIfInBounds_toArray, List.set_cons_zero, List.set_cons_succ, i64_w, i32_w]
        rfl
      exact norm_ (by simp only [putAll, Act.put, List.setIfInBounds_toArray, List.set_cons_zero, List.set_cons_succ]) (hCont wd.heap.size _ ⟨blk_new _ _, ⟨Nat.ne_of_lt (blk_lt BR.out), Nat.ne_of_lt (blk_lt BL.out), Nat.ne_of_lt (blk_lt BB.out), below_size HB.out⟩, blk_alloc BB.out _, blk_alloc BR.out _, blk_alloc BL.out _, below_alloc HB.out _⟩)
  rintro s wx ⟨BX, ⟨nr, nl, nb, SX⟩, BB1, BR1, BL1, HB1⟩
  replace BB := Aside0.mk BB1
  replace BR := Aside0.mk BR1
  replace BL := Aside0.mk BL1
  replace HB := Aside0.mk HB1
  clear BB1 BR1 BL1 HB1
  have hHeld : (wx.cell? ⟨gb, 10, none⟩ = some (.int .i64 a0_10) ∧ wx.cell? ⟨gb, 1, none⟩ = some (.int .i64 a0_1) ∧ wx.cell? ⟨gb, 3, none⟩ = some (.int .i64 a0_3) ∧ wx.cell? ⟨gl, 0, none⟩ = some (.int .i64 L)) := ⟨(blk_cell BB.out 10).trans rfl, (blk_cell BB.out 1).trans rfl, (blk_cell BB.out 3).trans rfl, (blk_cell BL.out 0).trans rfl⟩
  refine norm_ (a' := ?_) ?_ ?_
  rotate_left
  · simp only [putAll, Act.put, List.setIfInBounds_toArray, List.set_cons_zero, List.set_cons_succ]
    rfl
  refine last_ (i := 19) (N := none) #[true, true, true, true, true, true, true, true, true, true, true, true, true, true, true, true, true, true, true, true] rfl rfl (by kernel_rfl) (by decide) (fun K hK => ?_)
  rw [if_pos (by rfl)]
  refine wp_store_row 29 _ _ rfl s #[.bool true, .bool false, .bool b10, .bool false, .bool false, .bool false, .bool false] rfl rfl 29 #[.bool false, .bool false, .bool false, .bool false, .bool false, .bool false, .bool false] BX (by kernel_rfl) rfl (by first | kernel_rfl | (simp [Value.oneCell']; done) | decide) ?_
  refine hK.out _ _ ?_
  clear hK K
  refine done_ (by kernel_rfl) ?_
  obtain ⟨wq, hwq⟩ : ∃ wq, wq = wx.setRow s #[.bool true, .bool false, .bool b10, .bool false, .bool false, .bool false, .bool false] := ⟨_, rfl⟩
  rw [← hwq]
  replace BX := Aside0.mk (show wq.heap[s]? = some (.cells #[.bool true, .bool false, .bool b10, .bool false, .bool false, .bool false, .bool false] 29 (0, 0)) by subst hwq; exact setRow_heap _ _ _ _ _ _ BX)
  replace BB := Aside0.mk (show wq.heap[gb]? = some (.cells #[.int .i64 a0_0, .int .i64 a0_1, .int .i64 a0_2, .int .i64 a0_3, .int .i64 a0_4, .int .i64 a0_5, .int .i64 a0_6, .int .i64 a0_7, .int .i64 a0_8, .int .i64 a0_9, .int .i64 a0_10, .int .i64 a0_11, .int .i64 a0_12, .int .i64 a0_13, .int .i64 a0_14, .int .i64 a0_15, .int .i64 a0_16, .int .i64 a0_17, .int .i64 a0_18] 23 (0, 0)) by subst hwq; exact (setRow_other _ _ _ _ nb).trans BB.out)
  replace BR := Aside0.mk (show wq.heap[gr]? = some (.cells #[.bool false, .bool false, .bool false, .bool false, .bool false, .bool false, .bool false] 29 (0, 0)) by subst hwq; exact (setRow_other _ _ _ _ nr).trans BR.out)
  replace BL := Aside0.mk (show wq.heap[gl]? = some (.cells #[.int .i64 L] 3 (0, 0)) by subst hwq; exact (setRow_other _ _ _ _ nl).trans BL.out)
  replace HB := Aside0.mk (show Below w.heap.size w wq by subst hwq; exact below_setRow HB.out SX _)
  clear hwq hHeld
  have hlc : wq.cell? ⟨gl, 0, none⟩ = some (.int .i64 L) := (blk_cell BL.out 0).trans rfl
  have hc2 : wq.cell? ⟨gb, 2, none⟩ = some (.int .i64 a0_2) := (blk_cell BB.out 2).trans rfl
  have hx0 : wq.cell? ⟨s, 0, none⟩ = some (.bool true) := (blk_cell BX.out 0).trans rfl
  have hx1 : wq.cell? ⟨s, 1, none⟩ = some (.bool false) := (blk_cell BX.out 1).trans rfl
  have hxf : wq.frozen? ⟨s, 1, none⟩ = false := blk_frozen BX.out 1
  go_wp2_with (first | (go_at_call 15; refine (spell_Of.clo _ L _ h2 gl _ hlc).mono ?_; rintro e wq ⟨rfl, rfl⟩) | ((with_reducible refine gate_store (t := 4) (p := 94) rfl ?_); refine store_event (t := 4) (p := 94) (v := .tmp 93) (w1 := (wq.setCell ⟨s, 1, none⟩ (.bool false))) ?hg ?ho ?hn ?hr ?_; (case ho => rfl); (case hg => rfl); (case hn => rfl); (case hr => first | (go_simp; done) | (go_simp; rfl)); intro wz hw; replace BX := Aside0.mk (show wz.heap[s]? = some (.cells #[.bool true, .bool false, .bool b10, .bool false, .bool false, .bool false, .bool false] 29 (0, 0)) by subst hw; exact blk_put BX.out 1 _ rfl); replace BR := Aside0.mk (show wz.heap[gr]? = some (.cells #[.bool false, .bool false, .bool false, .bool false, .bool false, .bool false, .bool false] 29 (0, 0)) by subst hw; exact blk_far BR.out nr _); replace HB := Aside0.mk (show Below w.heap.size w wz by subst hw; exact below_set HB.out SX); clear hw hlc hc2 hx0 hx1 hxf BB BL) | ((with_reducible refine gate_dst (N := 95) rfl ?_); refine wpList_load_row rfl 29 (.tmp 16) rfl s rfl 29 #[.bool true, .bool false, .bool b10, .bool false, .bool false, .bool false, .bool false] (0, 0) _ BX.out Try.underlying29 rfl (by kernel_rfl) ?_) | ((with_reducible refine gate_store (t := 29) (p := 10) rfl ?_); refine wpList_store_row rfl 29 _ _ rfl gr #[.bool true, .bool false, .bool b10, .bool false, .bool false, .bool false, .bool false] rfl rfl 29 #[.bool false, .bool false, .bool false, .bool false, .bool false, .bool false, .bool false] BR.out (by kernel_rfl) rfl (by first | kernel_rfl | (simp [Value.oneCell']; done) | decide) ?_))
  all_goals refine bodyPost_ret (spell_Of.results_c rfl _ _ gr 29 #[.bool true, .bool false, .bool b10, .bool false, .bool false, .bool false, .bool false] (0, 0) _ (.int .i64 0) rfl rfl (setRow_heap _ _ _ _ _ _ BR.out) Try.underlying29 rfl (by kernel_rfl)) rfl ?_
  all_goals exact ⟨rfl, below_setRow HB.out SR.out _⟩
set_option maxHeartbeats 8000000 in
set_option maxRecDepth 100000 in
theorem spell_Of.c3 (a0_0 : Int) (a0_1 : Int) (a0_2 : Int) (a0_3 : Int) (a0_4 : Int) (a0_5 : Int) (a0_6 : Int) (a0_7 : Int) (a0_8 : Int) (a0_9 : Int) (a0_10 : Int) (a0_11 : Int) (a0_12 : Int) (a0_13 : Int) (a0_14 : Int) (a0_15 : Int) (a0_16 : Int) (a0_17 : Int) (a0_18 : Int) (a1_0 : Int) (a1_1 : Int) (a2 : Int) (b10 split : Bool) (L : Int) (hL : wrap64 (a1_1 - a1_0) = L) (w : World) (h13 : decide (L ≥ a0_13) = false) (h8 : decide (L ≥ a0_8) = false) (h10 : decide (L ≥ a0_10) = b10) (h1 : decide (L ≥ a0_1) = false) (h3 : decide (L ≥ a0_3) = false) (hchk : ∀ w : World, Calls Try.prog 14 #[.agg #[.int .i64 a0_0, .int .i64 a0_1, .int .i64 a0_2, .int .i64 a0_3, .int .i64 a0_4, .int .i64 a0_5, .int .i64 a0_6, .int .i64 a0_7, .int .i64 a0_8, .int .i64 a0_9, .int .i64 a0_10, .int .i64 a0_11, .int .i64 a0_12, .int .i64 a0_13, .int .i64 a0_14, .int .i64 a0_15, .int .i64 a0_16, .int .i64 a0_17, .int .i64 a0_18], .agg #[.int .i64 a1_0, .int .i64 a1_1], .int .i64 a2] w fun e w' => e = .returned (.int .i64 0) ∧ Below w.heap.size w w') : Calls Try.prog 7 #[.agg #[.int .i64 a0_0, .int .i64 a0_1, .int .i64 a0_2, .int .i64 a0_3, .int .i64 a0_4, .int .i64 a0_5, .int .i64 a0_6, .int .i64 a0_7, .int .i64 a0_8, .int .i64 a0_9, .int .i64 a0_10, .int .i64 a0_11, .int .i64 a0_12, .int .i64 a0_13, .int .i64 a0_14, .int .i64 a0_15, .int .i64 a0_16, .int .i64 a0_17, .int .i64 a0_18], .agg #[.int .i64 a1_0, .int .i64 a1_1], .int .i64 a2, .bool true, .bool split] w fun e w' => e = .returned (.tuple #[.agg #[.bool false, .bool true, .bool b10, .bool false, .bool false, .bool false, .bool false], .int .i64 0]) ∧ Below w.heap.size w w' := by
  go_enter Try.func7, Try.ntmps7
  go_wp2_with (first | ((with_reducible refine gate_dst (N := 5) rfl ?_); refine box_event ?hg (N := 5) ?hd (cs := #[.int .i64 a0_0, .int .i64 a0_1, .int .i64 a0_2, .int .i64 a0_3, .int .i64 a0_4, .int .i64 a0_5, .int .i64 a0_6, .int .i64 a0_7, .int .i64 a0_8, .int .i64 a0_9, .int .i64 a0_10, .int .i64 a0_11, .int .i64 a0_12, .int .i64 a0_13, .int .i64 a0_14, .int .i64 a0_15, .int .i64 a0_16, .int .i64 a0_17, .int .i64 a0_18]) (t := 23) ?hr ?_; (case hd => rfl); (case hg => rfl); (case hr => first | (go_simp; done) | (go_simp; rfl)); intro gb hgb wb hbox hb; have BB := Aside0.mk hbox; have HB := Aside0.mk hb; have SB := Aside0.mk (Nat.le_of_eq hgb.symm); clear hbox hgb hb) | ((with_reducible refine gate_dst (N := 6) rfl ?_); refine box_event ?hg (N := 6) ?hd (cs := #[.int .i64 a1_0, .int .i64 a1_1]) (t := 25) ?hr ?_; (case hd => rfl); (case hg => rfl); (case hr => first | (go_simp; done) | (go_simp; rfl)); intro gs hgs ws hbox hb; have HBs_ := HB; have BS := Aside0.mk hbox; replace BB := Aside0.mk (blk_below BB.out hb); replace HB := Aside0.mk (below_step HB.out hb); have SS := Aside0.mk (Nat.le_trans (below_size HBs_.out) (Nat.le_of_eq hgs.symm)); clear hbox hgs hb HBs_) | ((with_reducible refine gate_dst (N := 10) rfl ?_); refine box_event ?hg (N := 10) ?hd (cs := #[.bool false, .bool false, .bool false, .bool false, .bool false, .bool false, .bool false]) (t := 29) ?hr ?_; (case hd => rfl); (case hg => rfl); (case hr => first | (go_simp; done) | (go_simp; rfl)); intro gr hgr wr hbox hb; have HBs_ := HB; have BR := Aside0.mk hbox; replace BB := Aside0.mk (blk_below BB.out hb); replace BS := Aside0.mk (blk_below BS.out hb); replace HB := Aside0.mk (below_step HB.out hb); have SR := Aside0.mk (Nat.le_trans (below_size HBs_.out) (Nat.le_of_eq hgr.symm)); clear hbox hgr hb HBs_) | ((with_reducible refine gate_dst (N := 17) rfl ?_); refine wpList_load_row rfl 23 (.tmp 5) rfl gb rfl 23 #[.int .i64 a0_0, .int .i64 a0_1, .int .i64 a0_2, .int .i64 a0_3, .int .i64 a0_4, .int .i64 a0_5, .int .i64 a0_6, .int .i64 a0_7, .int .i64 a0_8, .int .i64 a0_9, .int .i64 a0_10, .int .i64 a0_11, .int .i64 a0_12, .int .i64 a0_13, .int .i64 a0_14, .int .i64 a0_15, .int .i64 a0_16, .int .i64 a0_17, .int .i64 a0_18] (0, 0) _ BB.out Try.underlying23 rfl (by kernel_rfl) ?_) | ((with_reducible refine gate_dst (N := 18) rfl ?_); refine wpList_load_row rfl 25 (.tmp 6) rfl gs rfl 25 #[.int .i64 a1_0, .int .i64 a1_1] (0, 0) _ BS.out Try.underlying25 rfl (by kernel_rfl) ?_) | (go_at_call 14; refine (hchk _).mono ?_; rintro e wc ⟨rfl, hb⟩; replace BB := Aside0.mk (blk_below BB.out hb); replace BS := Aside0.mk (blk_below BS.out hb); replace BR := Aside0.mk (blk_below BR.out hb); replace HB := Aside0.mk (below_step HB.out hb); clear hb; have hs0 : wc.cell? ⟨gs, 0, none⟩ = some (.int .i64 a1_0) := (blk_cell BS.out 0).trans rfl; have hs1 : wc.cell? ⟨gs, 1, none⟩ = some (.int .i64 a1_1) := (blk_cell BS.out 1).trans rfl) | ((with_reducible refine gate_dst (N := 13) rfl ?_); refine box_event ?hg (N := 13) ?hd (cs := #[.int .i64 0]) (t := 3) ?hr ?_; (case hd => rfl); (case hg => rfl); (case hr => first | (go_simp; done) | (go_simp; rfl)); intro gl hgl wl hbox hb; have HBs_ := HB; have BL := Aside0.mk hbox; replace BB := Aside0.mk (blk_below BB.out hb); replace BS := Aside0.mk (blk_below BS.out hb); replace BR := Aside0.mk (blk_below BR.out hb); replace HB := Aside0.mk (below_step HB.out hb); have SL := Aside0.mk (Nat.le_trans (below_size HBs_.out) (Nat.le_of_eq hgl.symm)); clear hbox hgl hb HBs_ hs0 hs1; have hl0 : wl.cell? ⟨gl, 0, none⟩ = some (.int .i64 0) := (blk_cell BL.out 0).trans rfl; have hlf : wl.frozen? ⟨gl, 0, none⟩ = false := blk_frozen BL.out 0) | ((with_reducible refine gate_store (t := 3) (p := 13) rfl ?_); refine store_event (t := 3) (p := 13) (v := .tmp 29) (w1 := (wl.setCell ⟨gl, 0, none⟩ (.int .i64 L))) ?hg ?ho ?hn ?hr ?_; (case ho => rfl); (case hg => rfl); (case hn => rfl); (case hr => first | (go_simp; done) | (go_simp; rfl)); intro wv hw; have hnb := blk_ne BB.out BL.out (by decide); have hns := blk_ne BS.out BL.out (by decide); have hnr := blk_ne BR.out BL.out (by decide); replace BL := Aside0.mk (show wv.heap[gl]? = some (.cells #[.int .i64 L] 3 (0, 0)) by subst hw; exact blk_put BL.out 0 _ rfl); replace BB := Aside0.mk (show wv.heap[gb]? = _ by subst hw; exact blk_far BB.out hnb _); replace BS := Aside0.mk (show wv.heap[gs]? = _ by subst hw; exact blk_far BS.out hns _); replace BR := Aside0.mk (show wv.heap[gr]? = _ by subst hw; exact blk_far BR.out hnr _); replace HB := Aside0.mk (show Below w.heap.size w wv by subst hw; exact below_set HB.out SL.out); clear hl0 hlf hw hnb hns hnr; have hlc : wv.cell? ⟨gl, 0, none⟩ = some (.int .i64 L) := (blk_cell BL.out 0).trans rfl; have ht0 : wv.cell? ⟨gs, 0, none⟩ = some (.int .i64 a1_0) := (blk_cell BS.out 0).trans rfl; have ht1 : wv.cell? ⟨gs, 1, none⟩ = some (.int .i64 a1_1) := (blk_cell BS.out 1).trans rfl; have hc13 : wv.cell? ⟨gb, 13, none⟩ = some (.int .i64 a0_13) := (blk_cell BB.out 13).trans rfl; have hc8 : wv.cell? ⟨gb, 8, none⟩ = some (.int .i64 a0_8) := (blk_cell BB.out 8).trans rfl) | (go_at_call 15; refine (spell_Of.clo _ L _ h13 gl _ hlc).mono ?_; rintro e wv ⟨rfl, rfl⟩) | (go_at_call 15; refine (spell_Of.clo _ L _ h8 gl _ hlc).mono ?_; rintro e wv ⟨rfl, rfl⟩))
  refine start_ (n := 20) (S := fun w' => w'.cell? ⟨gb, 10, none⟩ = some (.int .i64 a0_10) ∧ w'.cell? ⟨gb, 1, none⟩ = some (.int .i64 a0_1) ∧ w'.cell? ⟨gb, 3, none⟩ = some (.int .i64 a0_3) ∧ w'.cell? ⟨gl, 0, none⟩ = some (.int .i64 L)) (ds := [19]) #[false, false, false, false, false, false, false, false, false, false, false, false, false, false, false, false, false, false, false, false] (by kernel_rfl) rfl rfl ⟨(blk_cell BB.out 10).trans rfl, (blk_cell BB.out 1).trans rfl, (blk_cell BB.out 3).trans rfl, (blk_cell BL.out 0).trans rfl⟩ (fun hHeld => ?_)
  have BD : Aside0 (wv.drew.heap[gb]? = some (.cells #[.int .i64 a0_0, .int .i64 a0_1, .int .i64 a0_2, .int .i64 a0_3, .int .i64 a0_4, .int .i64 a0_5, .int .i64 a0_6, .int .i64 a0_7, .int .i64 a0_8, .int .i64 a0_9, .int .i64 a0_10, .int .i64 a0_11, .int .i64 a0_12, .int .i64 a0_13, .int .i64 a0_14, .int .i64 a0_15, .int .i64 a0_16, .int .i64 a0_17, .int .i64 a0_18] 23 (0, 0)) ∧ wv.drew.heap[gr]? = some (.cells #[.bool false, .bool false, .bool false, .bool false, .bool false, .bool false, .bool false] 29 (0, 0)) ∧ wv.drew.heap[gl]? = some (.cells #[.int .i64 L] 3 (0, 0)) ∧ Below w.heap.size w wv.drew) := ⟨BB.out, BR.out, BL.out, HB.out.drew⟩
  clear BB BR BL HB BS hlc ht0 ht1 hc13 hc8
  generalize wv.drew = wd at BD hHeld ⊢
  have BB := Aside0.mk BD.out.1
  have BR := Aside0.mk BD.out.2.1
  have BL := Aside0.mk BD.out.2.2.1
  have HB := Aside0.mk BD.out.2.2.2
  clear BD
  refine pure_ (i := 0) (N := some 64) (v := ?_) (a' := ?_) #[true, false, false, false, false, false, false, false, false, false, false, false, false, false, false, false, false, false, false, false] rfl rfl (by kernel_rfl) (fun _ _ _ h => h) (Or.inl ⟨by rfl, ?_⟩) ?_ ?_
  rotate_left
  · intro w'
    go_simp
    with_reducible rfl
  rotate_left
  · simp only [Act.put, List.setIfInBounds_toArray, List.set_cons_zero, List.set_cons_succ, i64_w, i32_w]
    rfl
  refine pure_ (i := 1) (N := some 65) (v := ?_) (a' := ?_) #[true, true, false, false, false, false, false, false, false, false, false, false, false, false, false, false, false, false, false, false] rfl rfl (by kernel_rfl) (fun _ _ _ h => h) (Or.inl ⟨by rfl, ?_⟩) ?_ ?_
  rotate_left
  · intro w'
    go_simp
    with_reducible rfl
  rotate_left
  · simp only [Act.put, List.setIfInBounds_toArray, List.set_cons_zero, List.set_cons_succ, i64_w, i32_w]
    rfl
  refine pure_ (i := 4) (N := some 68) (v := ?_) (a' := ?_) #[true, true, false, false, true, false, false, false, false, false, false, false, false, false, false, false, false, false, false, false] rfl rfl (by kernel_rfl) (fun _ _ _ h => h) (Or.inl ⟨by rfl, ?_⟩) ?_ ?_
  rotate_left
  · intro w'
    go_simp
    with_reducible rfl
  rotate_left
  · simp only [Act.put, List.setIfInBounds_toArray, List.set_cons_zero, List.set_cons_succ, i64_w, i32_w]
    rfl
  refine pure_ (i := 5) (N := some 69) (v := ?_) (a' := ?_) #[true, true, false, false, true, true, false, false, false, false, false, false, false, false, false, false, false, false, false, false] rfl rfl (by kernel_rfl) (fun _ _ _ h => h) (Or.inl ⟨by rfl, ?_⟩) ?_ ?_
  rotate_left
  · intro w'
    go_simp
    with_reducible rfl
  rotate_left
  · simp only [Act.put, List.setIfInBounds_toArray, List.set_cons_zero, List.set_cons_succ, i64_w, i32_w]
    rfl
  refine take_ (i := 2) (N := some 66) (v := ?_) (a' := ?_) #[true, true, true, false, true, true, false, false, false, false, false, false, false, false, false, false, false, false, false, false] rfl rfl (by kernel_rfl) (fun _ _ _ h => h) (Or.inl ⟨by rfl, ?_⟩) hHeld ?_ ?_
  rotate_left
  · rintro w' ⟨s0, s1, s2, s3⟩
    go_simp
    with_reducible rfl
  rotate_left
  · simp only [Act.put, List.setIfInBounds_toArray, List.set_cons_zero, List.set_cons_succ, i64_w, i32_w]
    rfl
  refine take_ (i := 6) (N := some 70) (v := ?_) (a' := ?_) #[true, true, true, false, true, true, true, false, false, false, false, false, false, false, false, false, false, false, false, false] rfl rfl (by kernel_rfl) (fun _ _ _ h => h) (Or.inl ⟨by rfl, ?_⟩) hHeld ?_ ?_
  rotate_left
  · rintro w' ⟨s0, s1, s2, s3⟩
    go_simp
    with_reducible rfl
  rotate_left
  · simp only [Act.put, List.setIfInBounds_toArray, List.set_cons_zero, List.set_cons_succ, i64_w, i32_w]
    rfl
  refine join_ (σ := Nat) 1 #[true, true, true, true, true, true, true, true, true, true, true, true, true, true, true, true, true, true, true, false] (fun s => [(67, .bool b10), (71, .bool false), (72, .bool false), (73, .bool true), (74, .bool true), (75, .func (.func 15) #[] #[.pointer (some ⟨gl, 0, none⟩)]), (76, .pointer (some ⟨gb, 3, none⟩)), (77, .int .i64 a0_3), (78, .bool false), (79, .bool false), (80, .bool false), (81, .agg #[.bool false, .bool false, .bool b10, .bool false, .bool false, .bool false, .bool false]), (16, .pointer (some ⟨s, 0, none⟩))]) (fun s w' => w'.heap[s]? = some (.cells #[.bool false, .bool false, .bool false, .bool false, .bool false, .bool false, .bool false] 29 (0, 0)) ∧ (gr ≠ s ∧ gl ≠ s ∧ gb ≠ s ∧ w.heap.size ≤ s) ∧ w'.heap[gb]? = some (.cells #[.int .i64 a0_0, .int .i64 a0_1, .int .i64 a0_2, .int .i64 a0_3, .int .i64 a0_4, .int .i64 a0_5, .int .i64 a0_6, .int .i64 a0_7, .int .i64 a0_8, .int .i64 a0_9, .int .i64 a0_10, .int .i64 a0_11, .int .i64 a0_12, .int .i64 a0_13, .int .i64 a0_14, .int .i64 a0_15, .int .i64 a0_16, .int .i64 a0_17, .int .i64 a0_18] 23 (0, 0)) ∧ w'.heap[gr]? = some (.cells #[.bool false, .bool false, .bool false, .bool false, .bool false, .bool false, .bool false] 29 (0, 0)) ∧ w'.heap[gl]? = some (.cells #[.int .i64 L] 3 (0, 0)) ∧ Below w.heap.size w w') ?_ ?_
  rotate_left
  · intro hCont
    refine two_ (i := 3) (j := 18) (Ni := some 67) (Nj := some 16) #[true, true, true, true, true, true, true, false, false, false, false, false, false, false, false, false, false, false, false, false] #[true, true, true, false, true, true, true, false, false, false, false, false, false, false, false, false, false, false, true, false] rfl rfl rfl rfl (by kernel_rfl) (by decide) (by decide) (fun K hK => ?_) (fun K hK => ?_)
    · skip
      refine call_ 15 #[.int .i64 a0_10, .pointer (some ⟨gl, 0, none⟩)] (by rfl) rfl (by first | (go_simp; done) | (go_simp; rfl)) ?_
      with_reducible refine (spell_Of.clo _ L _ h10 gl _ ((blk_cell BL.out 0).trans rfl)).mono ?_
      rintro e wd ⟨rfl, rfl⟩
      refine ⟨_, rfl, ?_⟩
      refine hK.out _ _ ⟨(blk_cell BB.out 10).trans rfl, (blk_cell BB.out 1).trans rfl, (blk_cell BB.out 3).trans rfl, (blk_cell BL.out 0).trans rfl⟩ (fun hHeld => ?_)
      clear hK K
      refine norm_ (a' := ?_) ?_ ?_
      rotate_left
      · show Act.put _ (some 67) _ = _
        simp only [Act.put, List.setIfInBounds_toArray, List.set_cons_zero, List.set_cons_succ, i64_w, i32_w]
        rfl
      refine two_ (i := 7) (j := 18) (Ni := some 71) (Nj := some 16) #[true, true, true, true, true, true, true, true, false, false, false, false, false, false, false, false, false, false, false, false] #[true, true, true, true, true, true, true, false, false, false, false, false, false, false, false, false, false, false, true, false] rfl rfl rfl rfl (by kernel_rfl) (by decide) (by decide) (fun K hK => ?_) (fun K hK => ?_)
      · skip
        refine call_ 15 #[.int .i64 a0_1, .pointer (some ⟨gl, 0, none⟩)] (by rfl) rfl (by first | (go_simp; done) | (go_simp; rfl)) ?_
        with_reducible refine (spell_Of.clo _ L _ h1 gl _ ((blk_cell BL.out 0).trans rfl)).mono ?_
        rintro e wd ⟨rfl, rfl⟩
        refine ⟨_, rfl, ?_⟩
        refine hK.out _ _ ⟨(blk_cell BB.out 10).trans rfl, (blk_cell BB.out 1).trans rfl, (blk_cell BB.out 3).trans rfl, (blk_cell BL.out 0).trans rfl⟩ (fun hHeld => ?_)
        clear hK K
        refine norm_ (a' := ?_) ?_ ?_
        rotate_left
        · show Act.put _ (some 71) _ = _
          simp only [Act.put, List.setIfInBounds_toArray, List.set_cons_zero, List.set_cons_succ, i64_w, i32_w]
          rfl
        refine pure_ (i := 8) (N := some 72) (v := ?_) (a' := ?_) #[true, true, true, true, true, true, true, true, true, false, false, false, false, false, false, false, false, false, false, false] rfl rfl (by kernel_rfl) (fun _ _ _ h => h) (Or.inl ⟨by rfl, ?_⟩) ?_ ?_
        rotate_left
        · intro w'
          go_simp
          with_reducible rfl
        rotate_left
        · simp only [Act.put, List.setIfInBounds_toArray, List.set_cons_zero, List.set_cons_succ, i64_w, i32_w]
          rfl
        refine pure_ (i := 9) (N := some 73) (v := ?_) (a' := ?_) #[true, true, true, true, true, true, true, true, true, true, false, false, false, false, false, false, false, false, false, false] rfl rfl (by kernel_rfl) (fun _ _ _ h => h) (Or.inl ⟨by rfl, ?_⟩) ?_ ?_
        rotate_left
        · intro w'
          go_simp
          with_reducible rfl
        rotate_left
        · simp only [Act.put, List.setIfInBounds_toArray, List.set_cons_zero, List.set_cons_succ, i64_w, i32_w]
          rfl
        refine pure_ (i := 10) (N := some 74) (v := ?_) (a' := ?_) #[true, true, true, true, true, true, true, true, true, true, true, false, false, false, false, false, false, false, false, false] rfl rfl (by kernel_rfl) (fun _ _ _ h => h) (Or.inl ⟨by rfl, ?_⟩) ?_ ?_
        rotate_left
        · intro w'
          go_simp
          with_reducible rfl
        rotate_left
        · simp only [Act.put, List.setIfInBounds_toArray, List.set_cons_zero, List.set_cons_succ, i64_w, i32_w]
          rfl
        refine pure_ (i := 11) (N := some 75) (v := ?_) (a' := ?_) #[true, true, true, true, true, true, true, true, true, true, true, true, false, false, false, false, false, false, false, false] rfl rfl (by kernel_rfl) (fun _ _ _ h => h) (Or.inl ⟨by rfl, ?_⟩) ?_ ?_
        rotate_left
        · intro w'
          go_simp
          with_reducible rfl
        rotate_left
        · simp only [Act.put, List.setIfInBounds_toArray, List.set_cons_zero, List.set_cons_succ, i64_w, i32_w]
          rfl
        refine pure_ (i := 12) (N := some 76) (v := ?_) (a' := ?_) #[true, true, true, true, true, true, true, true, true, true, true, true, true, false, false, false, false, false, false, false] rfl rfl (by kernel_rfl) (fun _ _ _ h => h) (Or.inl ⟨by rfl, ?_⟩) ?_ ?_
        rotate_left
        · intro w'
          go_simp
          with_reducible rfl
        rotate_left
        · simp only [Act.put, List.setIfInBounds_toArray, List.set_cons_zero, List.set_cons_succ, i64_w, i32_w]
          rfl
        refine take_ (i := 13) (N := some 77) (v := ?_) (a' := ?_) #[true, true, true, true, true, true, true, true, true, true, true, true, true, true, false, false, false, false, false, false] rfl rfl (by kernel_rfl) (fun _ _ _ h => h) (Or.inl ⟨by rfl, ?_⟩) hHeld ?_ ?_
        rotate_left
        · rintro w' ⟨s0, s1, s2, s3⟩
          go_simp
          with_reducible rfl
        rotate_left
        · simp only [Act.put, List.setIfInBounds_toArray, List.set_cons_zero, List.set_cons_succ, i64_w, i32_w]
          rfl
        refine two_ (i := 14) (j := 18) (Ni := some 78) (Nj := some 16) #[true, true, true, true, true, true, true, true, true, true, true, true, true, true, true, false, false, false, false, false] #[true, true, true, true, true, true, true, true, true, true, true, true, true, true, false, false, false, false, true, false] rfl rfl rfl rfl (by kernel_rfl) (by decide) (by decide) (fun K hK => ?_) (fun K hK => ?_)
        · skip
          refine call_ 15 #[.int .i64 a0_3, .pointer (some ⟨gl, 0, none⟩)] (by rfl) rfl (by first | (go_simp; done) | (go_simp; rfl)) ?_
          with_reducible refine (spell_Of.clo _ L _ h3 gl _ ((blk_cell BL.out 0).trans rfl)).mono ?_
          rintro e wd ⟨rfl, rfl⟩
          refine ⟨_, rfl, ?_⟩
          refine hK.out _ _ ⟨(blk_cell BB.out 10).trans rfl, (blk_cell BB.out 1).trans rfl, (blk_cell BB.out 3).trans rfl, (blk_cell BL.out 0).trans rfl⟩ (fun hHeld => ?_)
          clear hK K
          refine norm_ (a' := ?_) ?_ ?_
          rotate_left
          · show Act.put _ (some 78) _ = _
            simp only [Act.put, List.setIfInBounds_toArray, List.set_cons_zero, List.set_cons_succ, i64_w, i32_w]
            rfl
          refine pure_ (i := 15) (N := some 79) (v := ?_) (a' := ?_) #[true, true, true, true, true, true, true, true, true, true, true, true, true, true, true, true, false, false, false, false] rfl rfl (by kernel_rfl) (fun _ _ _ h => h) (Or.inl ⟨by rfl, ?_⟩) ?_ ?_
          rotate_left
          · intro w'
            go_simp
            with_reducible rfl
          rotate_left
          · simp only [Act.put, List.setIfInBounds_toArray, List.set_cons_zero, List.set_cons_succ, i64_w, i32_w]
            rfl
          refine pure_ (i := 16) (N := some 80) (v := ?_) (a' := ?_) #[true, true, true, true, true, true, true, true, true, true, true, true, true, true, true, true, true, false, false, false] rfl rfl (by kernel_rfl) (fun _ _ _ h => h) (Or.inl ⟨by rfl, ?_⟩) ?_ ?_
          rotate_left
          · intro w'
            go_simp
            with_reducible rfl
          rotate_left
          · simp only [Act.put, List.setIfInBounds_toArray, List.set_cons_zero, List.set_cons_succ, i64_w, i32_w]
            rfl
          refine pure_ (i := 17) (N := some 81) (v := ?_) (a' := ?_) #[true, true, true, true, true, true, true, true, true, true, true, true, true, true, true, true, true, true, false, false] rfl rfl (by kernel_rfl) (fun _ _ _ h => h) (Or.inl ⟨by rfl, ?_⟩) ?_ ?_
          rotate_left
          · intro w'
            go_simp
            with_reducible rfl
          rotate_left
          · simp only [Act.put, List.setIfInBounds_toArray, List.set_cons_zero, List.set_cons_succ, i64_w, i32_w]
            rfl
          refine one_ (i := 18) (N := some 16) #[true, true, true, true, true, true, true, true, true, true, true, true, true, true, true, true, true, true, true, false] rfl rfl (by kernel_rfl) (by decide) (fun K hK => ?_)
          refine value_ (w1 := ?_) (v := ?_) (by rfl) rfl ?_ ?_
          rotate_left 2
          · go_simp
            constructor
            · rfl
            · rfl
          refine hK.out _ _ ⟨(blk_cell (Aside0.mk (blk_alloc BB.out _)).out 10).trans rfl, (blk_cell (Aside0.mk (blk_alloc BB.out _)).out 1).trans rfl, (blk_cell (Aside0.mk (blk_alloc BB.out _)).out 3).trans rfl, (blk_cell (Aside0.mk (blk_alloc BL.out _)).out 0).trans rfl⟩ (fun hHeld => ?_)
          clear hK K
          refine norm_ (a' := ?_) ?_ ?_
          rotate_left
          · show Act.put _ (some 16) _ = _
            simp only [Act.put, List.setIfInBounds_toArray, List.set_cons_zero, List.set_cons_succ, i64_w, i32_w]
            rfl
          exact norm_ (by simp only [putAll, Act.put, List.setIfInBounds_toArray, List.set_cons_zero, List.set_cons_succ]) (hCont wd.heap.size _ ⟨blk_new _ _, ⟨Nat.ne_of_lt (blk_lt BR.out), Nat.ne_of_lt (blk_lt BL.out), Nat.ne_of_lt (blk_lt BB.out), below_size HB.out⟩, blk_alloc BB.out _, blk_alloc BR.out _, blk_alloc BL.out _, below_alloc HB.out _⟩)
        · skip
          refine value_ (w1 := ?_) (v := ?_) (by rfl) rfl ?_ ?_
          rotate_left 2
          · go_simp
            constructor
            · rfl
            · rfl
          refine hK.out _ _ ⟨(blk_cell (Aside0.mk (blk_alloc BB.out _)).out 10).trans rfl, (blk_cell (Aside0.mk (blk_alloc BB.out _)).out 1).trans rfl, (blk_cell (Aside0.mk (blk_alloc BB.out _)).out 3).trans rfl, (blk_cell (Aside0.mk (blk_alloc BL.out _)).out 0).trans rfl⟩ (fun hHeld => ?_)
          clear hK K
          refine norm_ (a' := ?_) ?_ ?_
          rotate_left
          · show Act.put _ (some 16) _ = _
            simp only [Act.put, List.setIfInBounds_toArray, List.set_cons_zero, List.set_cons_succ, i64_w, i32_w]
            rfl
          refine one_ (i := 14) (N := some 78) #[true, true, true, true, true, true, true, true, true, true, true, true, true, true, true, false, false, false, true, false] rfl rfl (by kernel_rfl) (by decide) (fun K hK => ?_)
          refine call_ 15 #[.int .i64 a0_3, .pointer (some ⟨gl, 0, none⟩)] (by rfl) rfl (by first | (go_simp; done) | (go_simp; rfl)) ?_
          with_reducible refine (spell_Of.clo _ L _ h3 gl _ ((blk_cell (Aside0.mk (blk_alloc BL.out _)).out 0).trans rfl)).mono ?_
          rintro e wd ⟨rfl, rfl⟩
          refine ⟨_, rfl, ?_⟩
          refine hK.out _ _ ⟨(blk_cell (Aside0.mk (blk_alloc BB.out _)).out 10).trans rfl, (blk_cell (Aside0.mk (blk_alloc BB.out _)).out 1).trans rfl, (blk_cell (Aside0.mk (blk_alloc BB.out _)).out 3).trans rfl, (blk_cell (Aside0.mk (blk_alloc BL.out _)).out 0).trans rfl⟩ (fun hHeld => ?_)
          clear hK K
          refine norm_ (a' := ?_) ?_ ?_
          rotate_left
          · show Act.put _ (some 78) _ = _
            simp only [Act.put, List.setIfInBounds_toArray, List.set_cons_zero, List.set_cons_succ, i64_w, i32_w]
            rfl
          refine pure_ (i := 15) (N := some 79) (v := ?_) (a' := ?_) #[true, true, true, true, true, true, true, true, true, true, true, true, true, true, true, true, false, false, true, false] rfl rfl (by kernel_rfl) (fun _ _ _ h => h) (Or.inl ⟨by rfl, ?_⟩) ?_ ?_
          rotate_left
          · intro w'
            go_simp
            with_reducible rfl
          rotate_left
          · simp only [Act.put, List.setIfInBounds_toArray, List.set_cons_zero, List.set_cons_succ, i64_w, i32_w]
            rfl
          refine pure_ (i := 16) (N := some 80) (v := ?_) (a' := ?_) #[true, true, true, true, true, true, true, true, true, true, true, true, true, true, true, true, true, false, true, false] rfl rfl (by kernel_rfl) (fun _ _ _ h => h) (Or.inl ⟨by rfl, ?_⟩) ?_ ?_
          rotate_left
          · intro w'
            go_simp
            with_reducible rfl
          rotate_left
          · simp only [Act.put, List.setIfInBounds_toArray, List.set_cons_zero, List.set_cons_succ, i64_w, i32_w]
            rfl
          refine pure_ (i := 17) (N := some 81) (v := ?_) (a' := ?_) #[true, true, true, true, true, true, true, true, true, true, true, true, true, true, true, true, true, true, true, false] rfl rfl (by kernel_rfl) (fun _ _ _ h => h) (Or.inl ⟨by rfl, ?_⟩) ?_ ?_
          rotate_left
          · intro w'
            go_simp
            with_reducible rfl
          rotate_left
          · simp only [Act.put, List.setIfInBounds_toArray, List.set_cons_zero, List.set_cons_succ, i64_w, i32_w]
            rfl
          exact norm_ (by simp only [putAll, Act.put, List.setIfInBounds_toArray, List.set_cons_zero, List.set_cons_succ]) (hCont wd.heap.size _ ⟨blk_new _ _, ⟨Nat.ne_of_lt (blk_lt BR.out), Nat.ne_of_lt (blk_lt BL.out), Nat.ne_of_lt (blk_lt BB.out), below_size HB.out⟩, blk_alloc BB.out _, blk_alloc BR.out _, blk_alloc BL.out _, below_alloc HB.out _⟩)
      · skip
        refine value_ (w1 := ?_) (v := ?_) (by rfl) rfl ?_ ?_
        rotate_left 2
        · go_simp
          constructor
          · rfl
          · rfl
        refine hK.out _ _ ⟨(blk_cell (Aside0.mk (blk_alloc BB.out _)).out 10).trans rfl, (blk_cell (Aside0.mk (blk_alloc BB.out _)).out 1).trans rfl, (blk_cell (Aside0.mk (blk_alloc BB.out _)).out 3).trans rfl, (blk_cell (Aside0.mk (blk_alloc BL.out _)).out 0).trans rfl⟩ (fun hHeld => ?_)
        clear hK K
        refine norm_ (a' := ?_) ?_ ?_
        rotate_left
        · show Act.put _ (some 16) _ = _
          simp only [Act.put, List.setIfInBounds_toArray, List.set_cons_zero, List.set_cons_succ, i64_w, i32_w]
          rfl
        refine one_ (i := 7) (N := some 71) #[true, true, true, true, true, true, true, true, false, false, false, false, false, false, false, false, false, false, true, false] rfl rfl (by kernel_rfl) (by decide) (fun K hK => ?_)
        refine call_ 15 #[.int .i64 a0_1, .pointer (some ⟨gl, 0, none⟩)] (by rfl) rfl (by first | (go_simp; done) | (go_simp; rfl)) ?_
        with_reducible refine (spell_Of.clo _ L _ h1 gl _ ((blk_cell (Aside0.mk (blk_alloc BL.out _)).out 0).trans rfl)).mono ?_
        rintro e wd ⟨rfl, rfl⟩
        refine ⟨_, rfl, ?_⟩
        refine hK.out _ _ ⟨(blk_cell (Aside0.mk (blk_alloc BB.out _)).out 10).trans rfl, (blk_cell (Aside0.mk (blk_alloc BB.out _)).out 1).trans rfl, (blk_cell (Aside0.mk (blk_alloc BB.out _)).out 3).trans rfl, (blk_cell (Aside0.mk (blk_alloc BL.out _)).out 0).trans rfl⟩ (fun hHeld => ?_)
        clear hK K
        refine norm_ (a' := ?_) ?_ ?_
        rotate_left
        · show Act.put _ (some 71) _ = _
          simp only [Act.put, List.setIfInBounds_toArray, List.set_cons_zero, List.set_cons_succ, i64_w, i32_w]
          rfl
        refine pure_ (i := 8) (N := some 72) (v := ?_) (a' := ?_) #[true, true, true, true, true, true, true, true, true, false, false, false, false, false, false, false, false, false, true, false] rfl rfl (by kernel_rfl) (fun _ _ _ h => h) (Or.inl ⟨by rfl, ?_⟩) ?_ ?_
        rotate_left
        · intro w'
          go_simp
          with_reducible rfl
        rotate_left
        · simp only [Act.put, List.setIfInBounds_toArray, List.set_cons_zero, List.set_cons_succ, i64_w, i32_w]
          rfl
        refine pure_ (i := 9) (N := some 73) (v := ?_) (a' := ?_) #[true, true, true, true, true, true, true, true, true, true, false, false, false, false, false, false, false, false, true, false] rfl rfl (by kernel_rfl) (fun _ _ _ h => h) (Or.inl ⟨by rfl, ?_⟩) ?_ ?_
        rotate_left
        · intro w'
          go_simp
          with_reducible rfl
        rotate_left
        · simp only [Act.put, List.setIfInBounds_toArray, List.set_cons_zero, List.set_cons_succ, i64_w, i32_w]
          rfl
        refine pure_ (i := 10) (N := some 74) (v := ?_) (a' := ?_) #[true, true, true, true, true, true, true, true, true, true, true, false, false, false, false, false, false, false, true, false] rfl rfl (by kernel_rfl) (fun _ _ _ h => h) (Or.inl ⟨by rfl, ?_⟩) ?_ ?_
        rotate_left
        · intro w'
          go_simp
          with_reducible rfl
        rotate_left
        · simp only [Act.put, List.setIfInBounds_toArray, List.set_cons_zero, List.set_cons_succ, i64_w, i32_w]
          rfl
        refine pure_ (i := 11) (N := some 75) (v := ?_) (a' := ?_) #[true, true, true, true, true, true, true, true, true, true, true, true, false, false, false, false, false, false, true, false] rfl rfl (by kernel_rfl) (fun _ _ _ h => h) (Or.inl ⟨by rfl, ?_⟩) ?_ ?_
        rotate_left
        · intro w'
          go_simp
          with_reducible rfl
        rotate_left
        · simp only [Act.put, List.setIfInBounds_toArray, List.set_cons_zero, List.set_cons_succ, i64_w, i32_w]
          rfl
        refine pure_ (i := 12) (N := some 76) (v := ?_) (a' := ?_) #[true, true, true, true, true, true, true, true, true, true, true, true, true, false, false, false, false, false, true, false] rfl rfl (by kernel_rfl) (fun _ _ _ h => h) (Or.inl ⟨by rfl, ?_⟩) ?_ ?_
        rotate_left
        · intro w'
          go_simp
          with_reducible rfl
        rotate_left
        · simp only [Act.put, List.setIfInBounds_toArray, List.set_cons_zero, List.set_cons_succ, i64_w, i32_w]
          rfl
        refine take_ (i := 13) (N := some 77) (v := ?_) (a' := ?_) #[true, true, true, true, true, true, true, true, true, true, true, true, true, true, false, false, false, false, true, false] rfl rfl (by kernel_rfl) (fun _ _ _ h => h) (Or.inl ⟨by rfl, ?_⟩) hHeld ?_ ?_
        rotate_left
        · rintro w' ⟨s0, s1, s2, s3⟩
          go_simp
          with_reducible rfl
        rotate_left
        · simp only [Act.put, List.setIfInBounds_toArray, List.set_cons_zero, List.set_cons_succ, i64_w, i32_w]
          rfl
        refine one_ (i := 14) (N := some 78) #[true, true, true, true, true, true, true, true, true, true, true, true, true, true, true, false, false, false, true, false] rfl rfl (by kernel_rfl) (by decide) (fun K hK => ?_)
        refine call_ 15 #[.int .i64 a0_3, .pointer (some ⟨gl, 0, none⟩)] (by rfl) rfl (by first | (go_simp; done) | (go_simp; rfl)) ?_
        with_reducible refine (spell_Of.clo _ L _ h3 gl _ ((blk_cell (Aside0.mk (blk_alloc BL.out _)).out 0).trans rfl)).mono ?_
        rintro e wd ⟨rfl, rfl⟩
        refine ⟨_, rfl, ?_⟩
        refine hK.out _ _ ⟨(blk_cell (Aside0.mk (blk_alloc BB.out _)).out 10).trans rfl, (blk_cell (Aside0.mk (blk_alloc BB.out _)).out 1).trans rfl, (blk_cell (Aside0.mk (blk_alloc BB.out _)).out 3).trans rfl, (blk_cell (Aside0.mk (blk_alloc BL.out _)).out 0).trans rfl⟩ (fun hHeld => ?_)
        clear hK K
        refine norm_ (a' := ?_) ?_ ?_
        rotate_left
        · show Act.put _ (some 78) _ = _
          simp only [Act.put, List.setIfInBounds_toArray, List.set_cons_zero, List.set_cons_succ, i64_w, i32_w]
          rfl
        refine pure_ (i := 15) (N := some 79) (v := ?_) (a' := ?_) #[true, true, true, true, true, true, true, true, true, true, true, true, true, true, true, true, false, false, true, false] rfl rfl (by kernel_rfl) (fun _ _ _ h => h) (Or.inl ⟨by rfl, ?_⟩) ?_ ?_
        rotate_left
        · intro w'
          go_simp
          with_reducible rfl
        rotate_left
        · simp only [Act.put, List.setIfInBounds_toArray, List.set_cons_zero, List.set_cons_succ, i64_w, i32_w]
          rfl
        refine pure_ (i := 16) (N := some 80) (v := ?_) (a' := ?_) #[true, true, true, true, true, true, true, true, true, true, true, true, true, true, true, true, true, false, true, false] rfl rfl (by kernel_rfl) (fun _ _ _ h => h) (Or.inl ⟨by rfl, ?_⟩) ?_ ?_
        rotate_left
        · intro w'
          go_simp
          with_reducible rfl
        rotate_left
        · simp only [Act.put, List.setIfInBounds_toArray, List.set_cons_zero, List.set_cons_succ, i64_w, i32_w]
          rfl
        refine pure_ (i := 17) (N := some 81) (v := ?_) (a' := ?_) #[true, true, true, true, true, true, true, true, true, true, true, true, true, true, true, true, true, true, true, false] rfl rfl (by kernel_rfl) (fun _ _ _ h => h) (Or.inl ⟨by rfl, ?_⟩) ?_ ?_
        rotate_left
        · intro w'
          go_simp
          with_reducible rfl
        rotate_left
        · simp only [Act.put, List.setIfInBounds_toArray, List.set_cons_zero, List.set_cons_succ, i64_w, i32_w]
          rfl
        exact norm_ (by simp only [putAll, Act.put, List.setIfInBounds_toArray, List.set_cons_zero, List.set_cons_succ]) (hCont wd.heap.size _ ⟨blk_new _ _, ⟨Nat.ne_of_lt (blk_lt BR.out), Nat.ne_of_lt (blk_lt BL.out), Nat.ne_of_lt (blk_lt BB.out), below_size HB.out⟩, blk_alloc BB.out _, blk_alloc BR.out _, blk_alloc BL.out _, below_alloc HB.out _⟩)
    · skip
      refine value_ (w1 := ?_) (v := ?_) (by rfl) rfl ?_ ?_
      rotate_left 2
      · go_simp
        constructor
        · rfl
        · rfl
      refine hK.out _ _ ⟨(blk_cell (Aside0.mk (blk_alloc BB.out _)).out 10).trans rfl, (blk_cell (Aside0.mk (blk_alloc BB.out _)).out 1).trans rfl, (blk_cell (Aside0.mk (blk_alloc BB.out _)).out 3).trans rfl, (blk_cell (Aside0.mk (blk_alloc BL.out _)).out 0).trans rfl⟩ (fun hHeld => ?_)
      clear hK K
      refine norm_ (a' := ?_) ?_ ?_
      rotate_left
      · show Act.put _ (some 16) _ = _
        simp only [Act.put, List.setIfInBounds_toArray, List.set_cons_zero, List.set_cons_succ, i64_w, i32_w]
        rfl
      refine one_ (i := 3) (N := some 67) #[true, true, true, true, true, true, true, false, false, false, false, false, false, false, false, false, false, false, true, false] rfl rfl (by kernel_rfl) (by decide) (fun K hK => ?_)
      refine call_ 15 #[.int .i64 a0_10, .pointer (some ⟨gl, 0, none⟩)] (by rfl) rfl (by first | (go_simp; done) | (go_simp; rfl)) ?_
      with_reducible refine (spell_Of.clo _ L _ h10 gl _ ((blk_cell (Aside0.mk (blk_alloc BL.out _)).out 0).trans rfl)).mono ?_
      rintro e wd ⟨rfl, rfl⟩
      refine ⟨_, rfl, ?_⟩
      refine hK.out _ _ ⟨(blk_cell (Aside0.mk (blk_alloc BB.out _)).out 10).trans rfl, (blk_cell (Aside0.mk (blk_alloc BB.out _)).out 1).trans rfl, (blk_cell (Aside0.mk (blk_alloc BB.out _)).out 3).trans rfl, (blk_cell (Aside0.mk (blk_alloc BL.out _)).out 0).trans rfl⟩ (fun hHeld => ?_)
      clear hK K
      refine norm_ (a' := ?_) ?_ ?_
      rotate_left
      · show Act.put _ (some 67) _ = _
        simp only [Act.put, List.setIfInBounds_toArray, List.set_cons_zero, List.set_cons_succ, i64_w, i32_w]
        rfl
      refine one_ (i := 7) (N := some 71) #[true, true, true, true, true, true, true, true, false, false, false, false, false, false, false, false, false, false, true, false] rfl rfl (by kernel_rfl) (by decide) (fun K hK => ?_)
      refine call_ 15 #[.int .i64 a0_1, .pointer (some ⟨gl, 0, none⟩)] (by rfl) rfl (by first | (go_simp; done) | (go_simp; rfl)) ?_
      with_reducible refine (spell_Of.clo _ L _ h1 gl _ ((blk_cell (Aside0.mk (blk_alloc BL.out _)).out 0).trans rfl)).mono ?_
      rintro e wd ⟨rfl, rfl⟩
      refine ⟨_, rfl, ?_⟩
      refine hK.out _ _ ⟨(blk_cell (Aside0.mk (blk_alloc BB.out _)).out 10).trans rfl, (blk_cell (Aside0.mk (blk_alloc BB.out _)).out 1).trans rfl, (blk_cell (Aside0.mk (blk_alloc BB.out _)).out 3).trans rfl, (blk_cell (Aside0.mk (blk_alloc BL.out _)).out 0).trans rfl⟩ (fun hHeld => ?_)
      clear hK K
      refine norm_ (a' := ?_) ?_ ?_
      rotate_left
      · show Act.put _ (some 71) _ = _
        simp only [Act.put, List.setIfInBounds_toArray, List.set_cons_zero, List.set_cons_succ, i64_w, i32_w]
        rfl
      refine pure_ (i := 8) (N := some 72) (v := ?_) (a' := ?_) #[true, true, true, true, true, true, true, true, true, false, false, false, false, false, false, false, false, false, true, false] rfl rfl (by kernel_rfl) (fun _ _ _ h => h) (Or.inl ⟨by rfl, ?_⟩) ?_ ?_
      rotate_left
      · intro w'
        go_simp
        with_reducible rfl
      rotate_left
      · simp only [Act.put, List.setIfInBounds_toArray, List.set_cons_zero, List.set_cons_succ, i64_w, i32_w]
        rfl
      refine pure_ (i := 9) (N := some 73) (v := ?_) (a' := ?_) #[true, true, true, true, true, true, true, true, true, true, false, false, false, false, false, false, false, false, true, false] rfl rfl (by kernel_rfl) (fun _ _ _ h => h) (Or.inl ⟨by rfl, ?_⟩) ?_ ?_
      rotate_left
      · intro w'
        go_simp
        with_reducible rfl
      rotate_left
      · simp only [Act.put, List.setIfInBounds_toArray, List.set_cons_zero, List.set_cons_succ, i64_w, i32_w]
        rfl
      refine pure_ (i := 10) (N := some 74) (v := ?_) (a' := ?_) #[true, true, true, true, true, true, true, true, true, true, true, false, false, false, false, false, false, false, true, false] rfl rfl (by kernel_rfl) (fun _ _ _ h => h) (Or.inl ⟨by rfl, ?_⟩) ?_ ?_
      rotate_left
      · intro w'
        go_simp
        with_reducible rfl
      rotate_left
      · simp only [Act.put, List.setIfInBounds_toArray, List.set_cons_zero, List.set_cons_succ, i64_w, i32_w]
        rfl
      refine pure_ (i := 11) (N := some 75) (v := ?_) (a' := ?_) #[true, true, true, true, true, true, true, true, true, true, true, true, false, false, false, false, false, false, true, false] rfl rfl (by kernel_rfl) (fun _ _ _ h => h) (Or.inl ⟨by rfl, ?_⟩) ?_ ?_
      rotate_left
      · intro w'
        go_simp
        with_reducible rfl
      rotate_left
      · simp only [Act.put, List.setIfInBounds_toArray, List.set_cons_zero, List.set_cons_succ, i64_w, i32_w]
        rfl
      refine pure_ (i := 12) (N := some 76) (v := ?_) (a' := ?_) #[true, true, true, true, true, true, true, true, true, true, true, true, true, false, false, false, false, false, true, false] rfl rfl (by kernel_rfl) (fun _ _ _ h => h) (Or.inl ⟨by rfl, ?_⟩) ?_ ?_
      rotate_left
      · intro w'
        go_simp
        with_reducible rfl
      rotate_left
      · simp only [Act.put, List.setIfInBounds_toArray, List.set_cons_zero, List.set_cons_succ, i64_w, i32_w]
        rfl
      refine take_ (i := 13) (N := some 77) (v := ?_) (a' := ?_) #[true, true, true, true, true, true, true, true, true, true, true, true, true, true, false, false, false, false, true, false] rfl rfl (by kernel_rfl) (fun _ _ _ h => h) (Or.inl ⟨by rfl, ?_⟩) hHeld ?_ ?_
      rotate_left
      · rintro w' ⟨s0, s1, s2, s3⟩
        go_simp
        with_reducible rfl
      rotate_left
      · simp only [Act.put, List.setIfInBounds_toArray, List.set_cons_zero, List.set_cons_succ, i64_w, i32_w]
        rfl
      refine one_ (i := 14) (N := some 78) #[true, true, true, true, true, true, true, true, true, true, true, true, true, true, true, false, false, false, true, false] rfl rfl (by kernel_rfl) (by decide) (fun K hK => ?_)
      refine call_ 15 #[.int .i64 a0_3, .pointer (some ⟨gl, 0, none⟩)] (by rfl) rfl (by first | (go_simp; done) | (go_simp; rfl)) ?_
      with_reducible refine (spell_Of.clo _ L _ h3 gl _ ((blk_cell (Aside0.mk (blk_alloc BL.out _)).out 0).trans rfl)).mono ?_
      rintro e wd ⟨rfl, rfl⟩
      refine ⟨_, rfl, ?_⟩
      refine hK.out _ _ ⟨(blk_cell (Aside0.mk (blk_alloc BB.out _)).out 10).trans rfl, (blk_cell (Aside0.mk (blk_alloc BB.out _)).out 1).trans rfl, (blk_cell (Aside0.mk (blk_alloc BB.out _)).out 3).trans rfl, (blk_cell (Aside0.mk (blk_alloc BL.out _)).out 0).trans rfl⟩ (fun hHeld => ?_)
      clear hK K
      refine norm_ (a' := ?_) ?_ ?_
      rotate_left
      · show Act.put _ (some 78) _ = _
        simp only [Act.put, List.setIfInBounds_toArray, List.set_cons_zero, List.set_cons_succ, i64_w, i32_w]
        rfl
      refine pure_ (i := 15) (N := some 79) (v := ?_) (a' := ?_) #[true, true, true, true, true, true, true, true, true, true, true, true, true, true, true, true, false, false, true, false] rfl rfl (by kernel_rfl) (fun _ _ _ h => h) (Or.inl ⟨by rfl, ?_⟩) ?_ ?_
      rotate_left
      · intro w'
        go_simp
        with_reducible rfl
      rotate_left
      · simp only [Act.put, List.setIfInBounds_toArray, List.set_cons_zero, List.set_cons_succ, i64_w, i32_w]
        rfl
      refine pure_ (i := 16) (N := some 80) (v := ?_) (a' := ?_) #[true, true, true, true, true, true, true, true, true, true, true, true, true, true, true, true, true, false, true, false] rfl rfl (by kernel_rfl) (fun _ _ _ h => h) (Or.inl ⟨by rfl, ?_⟩) ?_ ?_
      rotate_left
      · intro w'
        go_simp
        with_reducible rfl
      rotate_left
      · simp only [Act.put, List.setIfInBounds_toArray, List.set_cons_zero, List.set_cons_succ, i64_w, i32_w]
        rfl
      refine pure_ (i := 17) (N := some 81) (v := ?_) (a' := ?_) #[true, true, true, true, true, true, true, true, true, true, true, true, true, true, true, true, true, true, true, false] rfl rfl (by kernel_rfl) (fun _ _ _ h => h) (Or.inl ⟨by rfl, ?_⟩) ?_ ?_
      rotate_left
      · intro w'
        go_simp
        with_reducible rfl
      rotate_left
      · simp only [Act.put, List.setIfInBounds_toArray, List.set_cons_zero, List.set_cons_succ, i64_w, i32_w]
        rfl
      exact norm_ (by simp only [putAll, Act.put, List.setIfInBounds_toArray, List.set_cons_zero, List.set_cons_succ]) (hCont wd.heap.size _ ⟨blk_new _ _, ⟨Nat.ne_of_lt (blk_lt BR.out), Nat.ne_of_lt (blk_lt BL.out), Nat.ne_of_lt (blk_lt BB.out), below_size HB.out⟩, blk_alloc BB.out _, blk_alloc BR.out _, blk_alloc BL.out _, below_alloc HB.out _⟩)
  rintro s wx ⟨BX, ⟨nr, nl, nb, SX⟩, BB1, BR1, BL1, HB1⟩
  replace BB := Aside0.mk BB1
  replace BR := Aside0.mk BR1
  replace BL := Aside0.mk BL1
  replace HB := Aside0.mk HB1
  clear BB1 BR1 BL1 HB1
  have hHeld : (wx.cell? ⟨gb, 10, none⟩ = some (.int .i64 a0_10) ∧ wx.cell? ⟨gb, 1, none⟩ = some (.int .i64 a0_1) ∧ wx.cell? ⟨gb, 3, none⟩ = some (.int .i64 a0_3) ∧ wx.cell? ⟨gl, 0, none⟩ = some (.int .i64 L)) := ⟨(blk_cell BB.out 10).trans rfl, (blk_cell BB.out 1).trans rfl, (blk_cell BB.out 3).trans rfl, (blk_cell BL.out 0).trans rfl⟩
  refine norm_ (a' := ?_) ?_ ?_
  rotate_left
  · simp only [putAll, Act.put, List.setIfInBounds_toArray, List.set_cons_zero, List.set_cons_succ]
    rfl
  refine last_ (i := 19) (N := none) #[true, true, true, true, true, true, true, true, true, true, true, true, true, true, true, true, true, true, true, true] rfl rfl (by kernel_rfl) (by decide) (fun K hK => ?_)
  rw [if_pos (by rfl)]
  refine wp_store_row 29 _ _ rfl s #[.bool false, .bool false, .bool b10, .bool false, .bool false, .bool false, .bool false] rfl rfl 29 #[.bool false, .bool false, .bool false, .bool false, .bool false, .bool false, .bool false] BX (by kernel_rfl) rfl (by first | kernel_rfl | (simp [Value.oneCell']; done) | decide) ?_
  refine hK.out _ _ ?_
  clear hK K
  refine done_ (by kernel_rfl) ?_
  obtain ⟨wq, hwq⟩ : ∃ wq, wq = wx.setRow s #[.bool false, .bool false, .bool b10, .bool false, .bool false, .bool false, .bool false] := ⟨_, rfl⟩
  rw [← hwq]
  replace BX := Aside0.mk (show wq.heap[s]? = some (.cells #[.bool false, .bool false, .bool b10, .bool false, .bool false, .bool false, .bool false] 29 (0, 0)) by subst hwq; exact setRow_heap _ _ _ _ _ _ BX)
  replace BB := Aside0.mk (show wq.heap[gb]? = some (.cells #[.int .i64 a0_0, .int .i64 a0_1, .int .i64 a0_2, .int .i64 a0_3, .int .i64 a0_4, .int .i64 a0_5, .int .i64 a0_6, .int .i64 a0_7, .int .i64 a0_8, .int .i64 a0_9, .int .i64 a0_10, .int .i64 a0_11, .int .i64 a0_12, .int .i64 a0_13, .int .i64 a0_14, .int .i64 a0_15, .int .i64 a0_16, .int .i64 a0_17, .int .i64 a0_18] 23 (0, 0)) by subst hwq; exact (setRow_other _ _ _ _ nb).trans BB.out)
  replace BR := Aside0.mk (show wq.heap[gr]? = some (.cells #[.bool false, .bool false, .bool false, .bool false, .bool false, .bool false, .bool false] 29 (0, 0)) by subst hwq; exact (setRow_other _ _ _ _ nr).trans BR.out)
  replace BL := Aside0.mk (show wq.heap[gl]? = some (.cells #[.int .i64 L] 3 (0, 0)) by subst hwq; exact (setRow_other _ _ _ _ nl).trans BL.out)
  replace HB := Aside0.mk (show Below w.heap.size w wq by subst hwq; exact below_setRow HB.out SX _)
  clear hwq hHeld
  have hlc : wq.cell? ⟨gl, 0, none⟩ = some (.int .i64 L) := (blk_cell BL.out 0).trans rfl
  have hc2 : wq.cell? ⟨gb, 2, none⟩ = some (.int .i64 a0_2) := (blk_cell BB.out 2).trans rfl
  have hx0 : wq.cell? ⟨s, 0, none⟩ = some (.bool false) := (blk_cell BX.out 0).trans rfl
  have hx1 : wq.cell? ⟨s, 1, none⟩ = some (.bool false) := (blk_cell BX.out 1).trans rfl
  have hxf : wq.frozen? ⟨s, 1, none⟩ = false := blk_frozen BX.out 1
  go_wp2_with (first | (go_at_call 15; refine (spell_Of.clo _ L _ h2 gl _ hlc).mono ?_; rintro e wq ⟨rfl, rfl⟩) | ((with_reducible refine gate_store (t := 4) (p := 94) rfl ?_); refine store_event (t := 4) (p := 94) (v := .tmp 93) (w1 := (wq.setCell ⟨s, 1, none⟩ (.bool true))) ?hg ?ho ?hn ?hr ?_; (case ho => rfl); (case hg => rfl); (case hn => rfl); (case hr => first | (go_simp; done) | (go_simp; rfl)); intro wz hw; replace BX := Aside0.mk (show wz.heap[s]? = some (.cells #[.bool false, .bool true, .bool b10, .bool false, .bool false, .bool false, .bool false] 29 (0, 0)) by subst hw; exact blk_put BX.out 1 _ rfl); replace BR := Aside0.mk (show wz.heap[gr]? = some (.cells #[.bool false, .bool false, .bool false, .bool false, .bool false, .bool false, .bool false] 29 (0, 0)) by subst hw; exact blk_far BR.out nr _); replace HB := Aside0.mk (show Below w.heap.size w wz by subst hw; exact below_set HB.out SX); clear hw hlc hc2 hx0 hx1 hxf BB BL) | ((with_reducible refine gate_dst (N := 95) rfl ?_); refine wpList_load_row rfl 29 (.tmp 16) rfl s rfl 29 #[.bool false, .bool true, .bool b10, .bool false, .bool false, .bool false, .bool false] (0, 0) _ BX.out Try.underlying29 rfl (by kernel_rfl) ?_) | ((with_reducible refine gate_store (t := 29) (p := 10) rfl ?_); refine wpList_store_row rfl 29 _ _ rfl gr #[.bool false, .bool true, .bool b10, .bool false, .bool false, .bool false, .bool false] rfl rfl 29 #[.bool false, .bool false, .bool false, .bool false, .bool false, .bool false, .bool false] BR.out (by kernel_rfl) rfl (by first | kernel_rfl | (simp [Value.oneCell']; done) | decide) ?_))
  all_goals refine bodyPost_ret (spell_Of.results_c rfl _ _ gr 29 #[.bool false, .bool true, .bool b10, .bool false, .bool false, .bool false, .bool false] (0, 0) _ (.int .i64 0) rfl rfl (setRow_heap _ _ _ _ _ _ BR.out) Try.underlying29 rfl (by kernel_rfl)) rfl ?_
  all_goals exact ⟨rfl, below_setRow HB.out SR.out _⟩
set_option maxHeartbeats 8000000 in
set_option maxRecDepth 100000 in
theorem spell_Of.c4 (a0_0 : Int) (a0_1 : Int) (a0_2 : Int) (a0_3 : Int) (a0_4 : Int) (a0_5 : Int) (a0_6 : Int) (a0_7 : Int) (a0_8 : Int) (a0_9 : Int) (a0_10 : Int) (a0_11 : Int) (a0_12 : Int) (a0_13 : Int) (a0_14 : Int) (a0_15 : Int) (a0_16 : Int) (a0_17 : Int) (a0_18 : Int) (a1_0 : Int) (a1_1 : Int) (a2 : Int) (b10 b2 split : Bool) (L : Int) (hL : wrap64 (a1_1 - a1_0) = L) (w : World) (h13 : decide (L ≥ a0_13) = false) (h8 : decide (L ≥ a0_8) = false) (h10 : decide (L ≥ a0_10) = b10) (h1 : decide (L ≥ a0_1) = false) (h2 : decide (L ≥ a0_2) = b2) (hchk : ∀ w : World, Calls Try.prog 14 #[.agg #[.int .i64 a0_0, .int .i64 a0_1, .int .i64 a0_2, .int .i64 a0_3, .int .i64 a0_4, .int .i64 a0_5, .int .i64 a0_6, .int .i64 a0_7, .int .i64 a0_8, .int .i64 a0_9, .int .i64 a0_10, .int .i64 a0_11, .int .i64 a0_12, .int .i64 a0_13, .int .i64 a0_14, .int .i64 a0_15, .int .i64 a0_16, .int .i64 a0_17, .int .i64 a0_18], .agg #[.int .i64 a1_0, .int .i64 a1_1], .int .i64 a2] w fun e w' => e = .returned (.int .i64 0) ∧ Below w.heap.size w w') : Calls Try.prog 7 #[.agg #[.int .i64 a0_0, .int .i64 a0_1, .int .i64 a0_2, .int .i64 a0_3, .int .i64 a0_4, .int .i64 a0_5, .int .i64 a0_6, .int .i64 a0_7, .int .i64 a0_8, .int .i64 a0_9, .int .i64 a0_10, .int .i64 a0_11, .int .i64 a0_12, .int .i64 a0_13, .int .i64 a0_14, .int .i64 a0_15, .int .i64 a0_16, .int .i64 a0_17, .int .i64 a0_18], .agg #[.int .i64 a1_0, .int .i64 a1_1], .int .i64 a2, .bool false, .bool split] w fun e w' => e = .returned (.tuple #[.agg #[.bool false, .bool b2, .bool b10, .bool false, .bool false, .bool false, .bool false], .int .i64 0]) ∧ Below w.heap.size w w' := by
  go_enter Try.func7, Try.ntmps7
  go_wp2_with (first | ((with_reducible refine gate_dst (N := 5) rfl ?_); refine box_event ?hg (N := 5) ?hd (cs := #[.int .i64 a0_0, .int .i64 a0_1, .int .i64 a0_2, .int .i64 a0_3, .int .i64 a0_4, .int .i64 a0_5, .int .i64 a0_6, .int .i64 a0_7, .int .i64 a0_8, .int .i64 a0_9, .int .i64 a0_10, .int .i64 a0_11, .int .i64 a0_12, .int .i64 a0_13, .int .i64 a0_14, .int .i64 a0_15, .int .i64 a0_16, .int .i64 a0_17, .int .i64 a0_18]) (t := 23) ?hr ?_; (case hd => rfl); (case hg => rfl); (case hr => first | (go_simp; done) | (go_simp; rfl)); intro gb hgb wb hbox hb; have BB := Aside0.mk hbox; have HB := Aside0.mk hb; have SB := Aside0.mk (Nat.le_of_eq hgb.symm); clear hbox hgb hb) | ((with_reducible refine gate_dst (N := 6) rfl ?_); refine box_event ?hg (N := 6) ?hd (cs := #[.int .i64 a1_0, .int .i64 a1_1]) (t := 25) ?hr ?_; (case hd => rfl); (case hg => rfl); (case hr => first | (go_simp; done) | (go_simp; rfl)); intro gs hgs ws hbox hb; have HBs_ := HB; have BS := Aside0.mk hbox; replace BB := Aside0.mk (blk_below BB.out hb); replace HB := Aside0.mk (below_step HB.out hb); have SS := Aside0.mk (Nat.le_trans (below_size HBs_.out) (Nat.le_of_eq hgs.symm)); clear hbox hgs hb HBs_) | ((with_reducible refine gate_dst (N := 10) rfl ?_); refine box_event ?hg (N := 10) ?hd (cs := #[.bool false, .bool false, .bool false, .bool false, .bool false, .bool false, .bool false]) (t := 29) ?hr ?_; (case hd => rfl); (case hg => rfl); (case hr => first | (go_simp; done) | (go_simp; rfl)); intro gr hgr wr hbox hb; have HBs_ := HB; have BR := Aside0.mk hbox; replace BB := Aside0.mk (blk_below BB.out hb); replace BS := Aside0.mk (blk_below BS.out hb); replace HB := Aside0.mk (below_step HB.out hb); have SR := Aside0.mk (Nat.le_trans (below_size HBs_.out) (Nat.le_of_eq hgr.symm)); clear hbox hgr hb HBs_) | ((with_reducible refine gate_dst (N := 17) rfl ?_); refine wpList_load_row rfl 23 (.tmp 5) rfl gb rfl 23 #[.int .i64 a0_0, .int .i64 a0_1, .int .i64 a0_2, .int .i64 a0_3, .int .i64 a0_4, .int .i64 a0_5, .int .i64 a0_6, .int .i64 a0_7, .int .i64 a0_8, .int .i64 a0_9, .int .i64 a0_10, .int .i64 a0_11, .int .i64 a0_12, .int .i64 a0_13, .int .i64 a0_14, .int .i64 a0_15, .int .i64 a0_16, .int .i64 a0_17, .int .i64 a0_18] (0, 0) _ BB.out Try.underlying23 rfl (by kernel_rfl) ?_) | ((with_reducible refine gate_dst (N := 18) rfl ?_); refine wpList_load_row rfl 25 (.tmp 6) rfl gs rfl 25 #[.int .i64 a1_0, .int .i64 a1_1] (0, 0) _ BS.out Try.underlying25 rfl (by kernel_rfl) ?_) | (go_at_call 14; refine (hchk _).mono ?_; rintro e wc ⟨rfl, hb⟩; replace BB := Aside0.mk (blk_below BB.out hb); replace BS := Aside0.mk (blk_below BS.out hb); replace BR := Aside0.mk (blk_below BR.out hb); replace HB := Aside0.mk (below_step HB.out hb); clear hb; have hs0 : wc.cell? ⟨gs, 0, none⟩ = some (.int .i64 a1_0) := (blk_cell BS.out 0).trans rfl; have hs1 : wc.cell? ⟨gs, 1, none⟩ = some (.int .i64 a1_1) := (blk_cell BS.out 1).trans rfl) | ((with_reducible refine gate_dst (N := 13) rfl ?_); refine box_event ?hg (N := 13) ?hd (cs := #[.int .i64 0]) (t := 3) ?hr ?_; (case hd => rfl); (case hg => rfl); (case hr => first | (go_simp; done) | (go_simp; rfl)); intro gl hgl wl hbox hb; have HBs_ := HB; have BL := Aside0.mk hbox; replace BB := Aside0.mk (blk_below BB.out hb); replace BS := Aside0.mk (blk_below BS.out hb); replace BR := Aside0.mk (blk_below BR.out hb); replace HB := Aside0.mk (below_step HB.out hb); have SL := Aside0.mk (Nat.le_trans (below_size HBs_.out) (Nat.le_of_eq hgl.symm)); clear hbox hgl hb HBs_ hs0 hs1; have hl0 : wl.cell? ⟨gl, 0, none⟩ = some (.int .i64 0) := (blk_cell BL.out 0).trans rfl; have hlf : wl.frozen? ⟨gl, 0, none⟩ = false := blk_frozen BL.out 0) | ((with_reducible refine gate_store (t := 3) (p := 13) rfl ?_); refine store_event (t := 3) (p := 13) (v := .tmp 29) (w1 := (wl.setCell ⟨gl, 0, none⟩ (.int .i64 L))) ?hg ?ho ?hn ?hr ?_; (case ho => rfl); (case hg => rfl); (case hn => rfl); (case hr => first | (go_simp; done) | (go_simp; rfl)); intro wv hw; have hnb := blk_ne BB.out BL.out (by decide); have hns := blk_ne BS.out BL.out (by decide); have hnr := blk_ne BR.out BL.out (by decide); replace BL := Aside0.mk (show wv.heap[gl]? = some (.cells #[.int .i64 L] 3 (0, 0)) by subst hw; exact blk_put BL.out 0 _ rfl); replace BB := Aside0.mk (show wv.heap[gb]? = _ by subst hw; exact blk_far BB.out hnb _); replace BS := Aside0.mk (show wv.heap[gs]? = _ by subst hw; exact blk_far BS.out hns _); replace BR := Aside0.mk (show wv.heap[gr]? = _ by subst hw; exact blk_far BR.out hnr _); replace HB := Aside0.mk (show Below w.heap.size w wv by subst hw; exact below_set HB.out SL.out); clear hl0 hlf hw hnb hns hnr; have hlc : wv.cell? ⟨gl, 0, none⟩ = some (.int .i64 L) := (blk_cell BL.out 0).trans rfl; have ht0 : wv.cell? ⟨gs, 0, none⟩ = some (.int .i64 a1_0) := (blk_cell BS.out 0).trans rfl; have ht1 : wv.cell? ⟨gs, 1, none⟩ = some (.int .i64 a1_1) := (blk_cell BS.out 1).trans rfl; have hc13 : wv.cell? ⟨gb, 13, none⟩ = some (.int .i64 a0_13) := (blk_cell BB.out 13).trans rfl; have hc8 : wv.cell? ⟨gb, 8, none⟩ = some (.int .i64 a0_8) := (blk_cell BB.out 8).trans rfl) | (go_at_call 15; refine (spell_Of.clo _ L _ h13 gl _ hlc).mono ?_; rintro e wv ⟨rfl, rfl⟩) | (go_at_call 15; refine (spell_Of.clo _ L _ h8 gl _ hlc).mono ?_; rintro e wv ⟨rfl, rfl⟩))
  refine start_ (n := 20) (S := fun w' => w'.cell? ⟨gb, 10, none⟩ = some (.int .i64 a0_10) ∧ w'.cell? ⟨gb, 1, none⟩ = some (.int .i64 a0_1) ∧ w'.cell? ⟨gb, 3, none⟩ = some (.int .i64 a0_3) ∧ w'.cell? ⟨gl, 0, none⟩ = some (.int .i64 L)) (ds := [19]) #[false, false, false, false, false, false, false, false, false, false, false, false, false, false, false, false, false, false, false, false] (by kernel_rfl) rfl rfl ⟨(blk_cell BB.out 10).trans rfl, (blk_cell BB.out 1).trans rfl, (blk_cell BB.out 3).trans rfl, (blk_cell BL.out 0).trans rfl⟩ (fun hHeld => ?_)
  have BD : Aside0 (wv.drew.heap[gb]? = some (.cells #[.int .i64 a0_0, .int .i64 a0_1, .int .i64 a0_2, .int .i64 a0_3, .int .i64 a0_4, .int .i64 a0_5, .int .i64 a0_6, .int .i64 a0_7, .int .i64 a0_8, .int .i64 a0_9, .int .i64 a0_10, .int .i64 a0_11, .int .i64 a0_12, .int .i64 a0_13, .int .i64 a0_14, .int .i64 a0_15, .int .i64 a0_16, .int .i64 a0_17, .int .i64 a0_18] 23 (0, 0)) ∧ wv.drew.heap[gr]? = some (.cells #[.bool false, .bool false, .bool false, .bool false, .bool false, .bool false, .bool false] 29 (0, 0)) ∧ wv.drew.heap[gl]? = some (.cells #[.int .i64 L] 3 (0, 0)) ∧ Below w.heap.size w wv.drew) := ⟨BB.out, BR.out, BL.out, HB.out.drew⟩
  clear BB BR BL HB BS hlc ht0 ht1 hc13 hc8
  generalize wv.drew = wd at BD hHeld ⊢
  have BB := Aside0.mk BD.out.1
  have BR := Aside0.mk BD.out.2.1
  have BL := Aside0.mk BD.out.2.2.1
  have HB := Aside0.mk BD.out.2.2.2
  clear BD
  refine pure_ (i := 0) (N := some 64) (v := ?_) (a' := ?_) #[true, false, false, false, false, false, false, false, false, false, false, false, false, false, false, false, false, false, false, false] rfl rfl (by kernel_rfl) (fun _ _ _ h => h) (Or.inl ⟨by rfl, ?_⟩) ?_ ?_
  rotate_left
  · intro w'
    go_simp
    with_reducible rfl
  rotate_left
  · simp only [Act.put, List.setIfInBounds_toArray, List.set_cons_zero, List.set_cons_succ, i64_w, i32_w]
    rfl
  refine pure_ (i := 1) (N := some 65) (v := ?_) (a' := ?_) #[true, true, false, false, false, false, false, false, false, false, false, false, false, false, false, false, false, false, false, false] rfl rfl (by kernel_rfl) (fun _ _ _ h => h) (Or.inl ⟨by rfl, ?_⟩) ?_ ?_
  rotate_left
  · intro w'
    go_simp
    with_reducible rfl
  rotate_left
  · simp only [Act.put, List.setIfInBounds_toArray, List.set_cons_zero, List.set_cons_succ, i64_w, i32_w]
    rfl
  refine pure_ (i := 4) (N := some 68) (v := ?_) (a' := ?_) #[true, true, false, false, true, false, false, false, false, false, false, false, false, false, false, false, false, false, false, false] rfl rfl (by kernel_rfl) (fun _ _ _ h => h) (Or.inl ⟨by rfl, ?_⟩) ?_ ?_
  rotate_left
  · intro w'
    go_simp
    with_reducible rfl
  rotate_left
  · simp only [Act.put, List.setIfInBounds_toArray, List.set_cons_zero, List.set_cons_succ, i64_w, i32_w]
    rfl
  refine pure_ (i := 5) (N := some 69) (v := ?_) (a' := ?_) #[true, true, false, false, true, true, false, false, false, false, false, false, false, false, false, false, false, false, false, false] rfl rfl (by kernel_rfl) (fun _ _ _ h => h) (Or.inl ⟨by rfl, ?_⟩) ?_ ?_
  rotate_left
  · intro w'
    go_simp
    with_reducible rfl
  rotate_left
  · simp only [Act.put, List.setIfInBounds_toArray, List.set_cons_zero, List.set_cons_succ, i64_w, i32_w]
    rfl
  refine take_ (i := 2) (N := some 66) (v := ?_) (a' := ?_) #[true, true, true, false, true, true, false, false, false, false, false, false, false, false, false, false, false, false, false, false] rfl rfl (by kernel_rfl) (fun _ _ _ h => h) (Or.inl ⟨by rfl, ?_⟩) hHeld ?_ ?_
  rotate_left
  · rintro w' ⟨s0, s1, s2, s3⟩
    go_simp
    with_reducible rfl
  rotate_left
  · simp only [Act.put, List.setIfInBounds_toArray, List.set_cons_zero, List.set_cons_succ, i64_w, i32_w]
    rfl
  refine take_ (i := 6) (N := some 70) (v := ?_) (a' := ?_) #[true, true, true, false, true, true, true, false, false, false, false, false, false, false, false, false, false, false, false, false] rfl rfl (by kernel_rfl) (fun _ _ _ h => h) (Or.inl ⟨by rfl, ?_⟩) hHeld ?_ ?_
  rotate_left
  · rintro w' ⟨s0, s1, s2, s3⟩
    go_simp
    with_reducible rfl
  rotate_left
  · simp only [Act.put, List.setIfInBounds_toArray, List.set_cons_zero, List.set_cons_succ, i64_w, i32_w]
    rfl
  refine join_ (σ := Nat) 1 #[true, true, true, true, true, true, true, true, true, true, true, true, true, true, true, true, true, true, true, false] (fun s => [(67, .bool b10), (71, .bool false), (72, .bool false), (73, .bool false), (74, .bool false), (75, undef), (76, undef), (77, undef), (78, undef), (79, .bool false), (80, .bool false), (81, .agg #[.bool false, .bool false, .bool b10, .bool false, .bool false, .bool false, .bool false]), (16, .pointer (some ⟨s, 0, none⟩))]) (fun s w' => w'.heap[s]? = some (.cells #[.bool false, .bool false, .bool false, .bool false, .bool false, .bool false, .bool false] 29 (0, 0)) ∧ (gr ≠ s ∧ gl ≠ s ∧ gb ≠ s ∧ w.heap.size ≤ s) ∧ w'.heap[gb]? = some (.cells #[.int .i64 a0_0, .int .i64 a0_1, .int .i64 a0_2, .int .i64 a0_3, .int .i64 a0_4, .int .i64 a0_5, .int .i64 a0_6, .int .i64 a0_7, .int .i64 a0_8, .int .i64 a0_9, .int .i64 a0_10, .int .i64 a0_11, .int .i64 a0_12, .int .i64 a0_13, .int .i64 a0_14, .int .i64 a0_15, .int .i64 a0_16, .int .i64 a0_17, .int .i64 a0_18] 23 (0, 0)) ∧ w'.heap[gr]? = some (.cells #[.bool false, .bool false, .bool false, .bool false, .bool false, .bool false, .bool false] 29 (0, 0)) ∧ w'.heap[gl]? = some (.cells #[.int .i64 L] 3 (0, 0)) ∧ Below w.heap.size w w') ?_ ?_
  rotate_left
  · intro hCont
    refine two_ (i := 3) (j := 18) (Ni := some 67) (Nj := some 16) #[true, true, true, true, true, true, true, false, false, false, false, false, false, false, false, false, false, false, false, false] #[true, true, true, false, true, true, true, false, false, false, false, false, false, false, false, false, false, false, true, false] rfl rfl rfl rfl (by kernel_rfl) (by decide) (by decide) (fun K hK => ?_) (fun K hK => ?_)
    · skip
      refine call_ 15 #[.int .i64 a0_10, .pointer (some ⟨gl, 0, none⟩)] (by rfl) rfl (by first | (go_simp; done) | (go_simp; rfl)) ?_
      with_reducible refine (spell_Of.clo _ L _ h10 gl _ ((blk_cell BL.out 0).trans rfl)).mono ?_
      rintro e wd ⟨rfl, rfl⟩
      refine ⟨_, rfl, ?_⟩
      refine hK.out _ _ ⟨(blk_cell BB.out 10).trans rfl, (blk_cell BB.out 1).trans rfl, (blk_cell BB.out 3).trans rfl, (blk_cell BL.out 0).trans rfl⟩ (fun hHeld => ?_)
      clear hK K
      refine norm_ (a' := ?_) ?_ ?_
      rotate_left
      · show Act.put _ (some 67) _ = _
        simp only [Act.put, List.setIfInBounds_toArray, List.set_cons_zero, List.set_cons_succ, i64_w, i32_w]
        rfl
      refine two_ (i := 7) (j := 18) (Ni := some 71) (Nj := some 16) #[true, true, true, true, true, true, true, true, false, false, false, false, false, false, false, false, false, false, false, false] #[true, true, true, true, true, true, true, false, false, false, false, false, false, false, false, false, false, false, true, false] rfl rfl rfl rfl (by kernel_rfl) (by decide) (by decide) (fun K hK => ?_) (fun K hK => ?_)
      · skip
        refine call_ 15 #[.int .i64 a0_1, .pointer (some ⟨gl, 0, none⟩)] (by rfl) rfl (by first | (go_simp; done) | (go_simp; rfl)) ?_
        with_reducible refine (spell_Of.clo _ L _ h1 gl _ ((blk_cell BL.out 0).trans rfl)).mono ?_
        rintro e wd ⟨rfl, rfl⟩
        refine ⟨_, rfl, ?_⟩
        refine hK.out _ _ ⟨(blk_cell BB.out 10).trans rfl, (blk_cell BB.out 1).trans rfl, (blk_cell BB.out 3).trans rfl, (blk_cell BL.out 0).trans rfl⟩ (fun hHeld => ?_)
        clear hK K
        refine norm_ (a' := ?_) ?_ ?_
        rotate_left
        · show Act.put _ (some 71) _ = _
          simp only [Act.put, List.setIfInBounds_toArray, List.set_cons_zero, List.set_cons_succ, i64_w, i32_w]
          rfl
        refine pure_ (i := 8) (N := some 72) (v := ?_) (a' := ?_) #[true, true, true, true, true, true, true, true, true, false, false, false, false, false, false, false, false, false, false, false] rfl rfl (by kernel_rfl) (fun _ _ _ h => h) (Or.inl ⟨by rfl, ?_⟩) ?_ ?_
        rotate_left
        · intro w'
          go_simp
          with_reducible rfl
        rotate_left
        · simp only [Act.put, List.setIfInBounds_toArray, List.set_cons_zero, List.set_cons_succ, i64_w, i32_w]
          rfl
        refine pure_ (i := 9) (N := some 73) (v := ?_) (a' := ?_) #[true, true, true, true, true, true, true, true, true, true, false, false, false, false, false, false, false, false, false, false] rfl rfl (by kernel_rfl) (fun _ _ _ h => h) (Or.inl ⟨by rfl, ?_⟩) ?_ ?_
        rotate_left
        · intro w'
          go_simp
          with_reducible rfl
        rotate_left
        · simp only [Act.put, List.setIfInBounds_toArray, List.set_cons_zero, List.set_cons_succ, i64_w, i32_w]
          rfl
        refine pure_ (i := 10) (N := some 74) (v := ?_) (a' := ?_) #[true, true, true, true, true, true, true, true, true, true, true, false, false, false, false, false, false, false, false, false] rfl rfl (by kernel_rfl) (fun _ _ _ h => h) (Or.inl ⟨by rfl, ?_⟩) ?_ ?_
        rotate_left
        · intro w'
          go_simp
          with_reducible rfl
        rotate_left
        · simp only [Act.put, List.setIfInBounds_toArray, List.set_cons_zero, List.set_cons_succ, i64_w, i32_w]
          rfl
        refine pure_ (i := 11) (N := some 75) (v := undef) (a' := ?_) #[true, true, true, true, true, true, true, true, true, true, true, true, false, false, false, false, false, false, false, false] rfl rfl (by kernel_rfl) (fun _ _ _ h => h) (Or.inr ⟨by rfl, rfl⟩) ?_ ?_
        rotate_left
        · simp only [Act.put, List.setIfInBounds_toArray, List.set_cons_zero, List.set_cons_succ, i64_w, i32_w]
          rfl
        refine pure_ (i := 12) (N := some 76) (v := undef) (a' := ?_) #[true, true, true, true, true, true, true, true, true, true, true, true, true, false, false, false, false, false, false, false] rfl rfl (by kernel_rfl) (fun _ _ _ h => h) (Or.inr ⟨by rfl, rfl⟩) ?_ ?_
        rotate_left
        · simp only [Act.put, List.setIfInBounds_toArray, List.set_cons_zero, List.set_cons_succ, i64_w, i32_w]
          rfl
        refine pure_ (i := 13) (N := some 77) (v := undef) (a' := ?_) #[true, true, true, true, true, true, true, true, true, true, true, true, true, true, false, false, false, false, false, false] rfl rfl (by kernel_rfl) (fun _ _ _ h => h) (Or.inr ⟨by rfl, rfl⟩) ?_ ?_
        rotate_left
        · simp only [Act.put, List.setIfInBounds_toArray, List.set_cons_zero, List.set_cons_succ, i64_w, i32_w]
          rfl
        refine pure_ (i := 14) (N := some 78) (v := undef) (a' := ?_) #[true, true, true, true, true, true, true, true, true, true, true, true, true, true, true, false, false, false, false, false] rfl rfl (by kernel_rfl) (fun _ _ _ h => h) (Or.inr ⟨by rfl, rfl⟩) ?_ ?_
        rotate_left
        · simp only [Act.put, List.setIfInBounds_toArray, List.set_cons_zero, List.set_cons_succ, i64_w, i32_w]
          rfl
        refine pure_ (i := 15) (N := some 79) (v := ?_) (a' := ?_) #[true, true, true, true, true, true, true, true, true, true, true, true, true, true, true, true, false, false, false, false] rfl rfl (by kernel_rfl) (fun _ _ _ h => h) (Or.inl ⟨by rfl, ?_⟩) ?_ ?_
        rotate_left
        · intro w'
          go_simp
          with_reducible rfl
        rotate_left
        · simp only [Act.put, List.setIfInBounds_toArray, List.set_cons_zero, List.set_cons_succ, i64_w, i32_w]
          rfl
        refine pure_ (i := 16) (N := some 80) (v := ?_) (a' := ?_) #[true, true, true, true, true, true, true, true, true, true, true, true, true, true, true, true, true, false, false, false] rfl rfl (by kernel_rfl) (fun _ _ _ h => h) (Or.inl ⟨by rfl, ?_⟩) ?_ ?_
        rotate_left
        · intro w'
          go_simp
          with_reducible rfl
        rotate_left
        · simp only [Act.put, List.setIfInBounds_toArray, List.set_cons_zero, List.set_cons_succ, i64_w, i32_w]
          rfl
        refine pure_ (i := 17) (N := some 81) (v := ?_) (a' := ?_) #[true, true, true, true, true, true, true, true, true, true, true, true, true, true, true, true, true, true, false, false] rfl rfl (by kernel_rfl) (fun _ _ _ h => h) (Or.inl ⟨by rfl, ?_⟩) ?_ ?_
        rotate_left
        · intro w'
          go_simp
          with_reducible rfl
        rotate_left
        · simp only [Act.put, List.setIfInBounds_toArray, List.set_cons_zero, List.set_cons_succ, i64_w, i32_w]
          rfl
        refine one_ (i := 18) (N := some 16) #[true, true, true, true, true, true, true, true, true, true, true, true, true, true, true, true, true, true, true, false] rfl rfl (by kernel_rfl) (by decide) (fun K hK => ?_)
        refine value_ (w1 := ?_) (v := ?_) (by rfl) rfl ?_ ?_
        rotate_left 2
        · go_simp
          constructor
          · rfl
          · rfl
        refine hK.out _ _ ⟨(blk_cell (Aside0.mk (blk_alloc BB.out _)).out 10).trans rfl, (blk_cell (Aside0.mk (blk_alloc BB.out _)).out 1).trans rfl, (blk_cell (Aside0.mk (blk_alloc BB.out _)).out 3).trans rfl, (blk_cell (Aside0.mk (blk_alloc BL.out _)).out 0).trans rfl⟩ (fun hHeld => ?_)
        clear hK K
        refine norm_ (a' := ?_) ?_ ?_
        rotate_left
        · show Act.put _ (some 16) _ = _
          simp only [Act.put, List.setIfInBounds_toArray, List.set_cons_zero, List.set_cons_succ, i64_w, i32_w]
          rfl
        exact norm_ (by simp only [putAll, Act.put, List.setIfInBounds_toArray, List.set_cons_zero, List.set_cons_succ]) (hCont wd.heap.size _ ⟨blk_new _ _, ⟨Nat.ne_of_lt (blk_lt BR.out), Nat.ne_of_lt (blk_lt BL.out), Nat.ne_of_lt (blk_lt BB.out), below_size HB.out⟩, blk_alloc BB.out _, blk_alloc BR.out _, blk_alloc BL.out _, below_alloc HB.out _⟩)
      · skip
        refine value_ (w1 := ?_) (v := ?_) (by rfl) rfl ?_ ?_
        rotate_left 2
        · go_simp
          constructor
          · rfl
          · rfl
        refine hK.out _ _ ⟨(blk_cell (Aside0.mk (blk_alloc BB.out _)).out 10).trans rfl, (blk_cell (Aside0.mk (blk_alloc BB.out _)).out 1).trans rfl, (blk_cell (Aside0.mk (blk_alloc BB.out _)).out 3).trans rfl, (blk_cell (Aside0.mk (blk_alloc BL.out _)).out 0).trans rfl⟩ (fun hHeld => ?_)
        clear hK K
        refine norm_ (a' := ?_) ?_ ?_
        rotate_left
        · show Act.put _ (some 16) _ = _
          simp only [Act.put, List.setIfInBounds_toArray, List.set_cons_zero, List.set_cons_succ, i64_w, i32_w]
          rfl
        refine one_ (i := 7) (N := some 71) #[true, true, true, true, true, true, true, true, false, false, false, false, false, false, false, false, false, false, true, false] rfl rfl (by kernel_rfl) (by decide) (fun K hK => ?_)
        refine call_ 15 #[.int .i64 a0_1, .pointer (some ⟨gl, 0, none⟩)] (by rfl) rfl (by first | (go_simp; done) | (go_simp; rfl)) ?_
        with_reducible refine (spell_Of.clo _ L _ h1 gl _ ((blk_cell (Aside0.mk (blk_alloc BL.out _)).out 0).trans rfl)).mono ?_
        rintro e wd ⟨rfl, rfl⟩
        refine ⟨_, rfl, ?_⟩
        refine hK.out _ _ ⟨(blk_cell (Aside0.mk (blk_alloc BB.out _)).out 10).trans rfl, (blk_cell (Aside0.mk (blk_alloc BB.out _)).out 1).trans rfl, (blk_cell (Aside0.mk (blk_alloc BB.out _)).out 3).trans rfl, (blk_cell (Aside0.mk (blk_alloc BL.out _)).out 0).trans rfl⟩ (fun hHeld => ?_)
        clear hK K
        refine norm_ (a' := ?_) ?_ ?_
        rotate_left
        · show Act.put _ (some 71) _ = _
          simp only [Act.put, List.setIfInBounds_toArray, List.set_cons_zero, List.set_cons_succ, i64_w, i32_w]
          rfl
        refine pure_ (i := 8) (N := some 72) (v := ?_) (a' := ?_) #[true, true, true, true, true, true, true, true, true, false, false, false, false, false, false, false, false, false, true, false] rfl rfl (by kernel_rfl) (fun _ _ _ h => h) (Or.inl ⟨by rfl, ?_⟩) ?_ ?_
        rotate_left
        · intro w'
          go_simp
          with_reducible rfl
        rotate_left
        · simp only [Act.put, List.setIfInBounds_toArray, List.set_cons_zero, List.set_cons_succ, i64_w, i32_w]
          rfl
        refine pure_ (i := 9) (N := some 73) (v := ?_) (a' := ?_) #[true, true, true, true, true, true, true, true, true, true, false, false, false, false, false, false, false, false, true, false] rfl rfl (by kernel_rfl) (fun _ _ _ h => h) (Or.inl ⟨by rfl, ?_⟩) ?_ ?_
        rotate_left
        · intro w'
          go_simp
          with_reducible rfl
        rotate_left
        · simp only [Act.put, List.setIfInBounds_toArray, List.set_cons_zero, List.set_cons_succ, i64_w, i32_w]
          rfl
        refine pure_ (i := 10) (N := some 74) (v := ?_) (a' := ?_) #[true, true, true, true, true, true, true, true, true, true, true, false, false, false, false, false, false, false, true, false] rfl rfl (by kernel_rfl) (fun _ _ _ h => h) (Or.inl ⟨by rfl, ?_⟩) ?_ ?_
        rotate_left
        · intro w'
          go_simp
          with_reducible rfl
        rotate_left
        · simp only [Act.put, List.setIfInBounds_toArray, List.set_cons_zero, List.set_cons_succ, i64_w, i32_w]
          rfl
        refine pure_ (i := 11) (N := some 75) (v := undef) (a' := ?_) #[true, true, true, true, true, true, true, true, true, true, true, true, false, false, false, false, false, false, true, false] rfl rfl (by kernel_rfl) (fun _ _ _ h => h) (Or.inr ⟨by rfl, rfl⟩) ?_ ?_
        rotate_left
        · simp only [Act.put, List.setIfInBounds_toArray, List.set_cons_zero, List.set_cons_succ, i64_w, i32_w]
          rfl
        refine pure_ (i := 12) (N := some 76) (v := undef) (a' := ?_) #[true, true, true, true, true, true, true, true, true, true, true, true, true, false, false, false, false, false, true, false] rfl rfl (by kernel_rfl) (fun _ _ _ h => h) (Or.inr ⟨by rfl, rfl⟩) ?_ ?_
        rotate_left
        · simp only [Act.put, List.setIfInBounds_toArray, List.set_cons_zero, List.set_cons_succ, i64_w, i32_w]
          rfl
        refine pure_ (i := 13) (N := some 77) (v := undef) (a' := ?_) #[true, true, true, true, true, true, true, true, true, true, true, true, true, true, false, false, false, false, true, false] rfl rfl (by kernel_rfl) (fun _ _ _ h => h) (Or.inr ⟨by rfl, rfl⟩) ?_ ?_
        rotate_left
        · simp only [Act.put, List.setIfInBounds_toArray, List.set_cons_zero, List.set_cons_succ, i64_w, i32_w]
          rfl
        refine pure_ (i := 14) (N := some 78) (v := undef) (a' := ?_) #[true, true, true, true, true, true, true, true, true, true, true, true, true, true, true, false, false, false, true, false] rfl rfl (by kernel_rfl) (fun _ _ _ h => h) (Or.inr ⟨by rfl, rfl⟩) ?_ ?_
        rotate_left
        · simp only [Act.put, List.setIfInBounds_toArray, List.set_cons_zero, List.set_cons_succ, i64_w, i32_w]
          rfl
        refine pure_ (i := 15) (N := some 79) (v := ?_) (a' := ?_) #[true, true, true, true, true, true, true, true, true, true, true, true, true, true, true, true, false, false, true, false] rfl rfl (by kernel_rfl) (fun _ _ _ h => h) (Or.inl ⟨by rfl, ?_⟩) ?_ ?_
        rotate_left
        · intro w'
          go_simp
          with_reducible rfl
        rotate_left
        · simp only [Act.put, List.setIfInBounds_toArray, List.set_cons_zero, List.set_cons_succ, i64_w, i32_w]
          rfl
        refine pure_ (i := 16) (N := some 80) (v := ?_) (a' := ?_) #[true, true, true, true, true, true, true, true, true, true, true, true, true, true, true, true, true, false, true, false] rfl rfl (by kernel_rfl) (fun _ _ _ h => h) (Or.inl ⟨by rfl, ?_⟩) ?_ ?_
        rotate_left
        · intro w'
          go_simp
          with_reducible rfl
        rotate_left
        · simp only [Act.put, List.setIfInBounds_toArray, List.set_cons_zero, List.set_cons_succ, i64_w, i32_w]
          rfl
        refine pure_ (i := 17) (N := some 81) (v := ?_) (a' := ?_) #[true, true, true, true, true, true, true, true, true, true, true, true, true, true, true, true, true, true, true, false] rfl rfl (by kernel_rfl) (fun _ _ _ h => h) (Or.inl ⟨by rfl, ?_⟩) ?_ ?_
        rotate_left
        · intro w'
          go_simp
          with_reducible rfl
        rotate_left
        · simp only [Act.put, List.setIfInBounds_toArray, List.set_cons_zero, List.set_cons_succ, i64_w, i32_w]
          rfl
        exact norm_ (by simp only [putAll, Act.put, List.setIfInBounds_toArray, List.set_cons_zero, List.set_cons_succ]) (hCont wd.heap.size _ ⟨blk_new _ _, ⟨Nat.ne_of_lt (blk_lt BR.out), Nat.ne_of_lt (blk_lt BL.out), Nat.ne_of_lt (blk_lt BB.out), below_size HB.out⟩, blk_alloc BB.out _, blk_alloc BR.out _, blk_alloc BL.out _, below_alloc HB.out _⟩)
    · skip
      refine value_ (w1 := ?_) (v := ?_) (by rfl) rfl ?_ ?_
      rotate_left 2
      · go_simp
        constructor
        · rfl
        · rfl
      refine hK.out _ _ ⟨(blk_cell (Aside0.mk (blk_alloc BB.out _)).out 10).trans rfl, (blk_cell (Aside0.mk (blk_alloc BB.out _)).out 1).trans rfl, (blk_cell (Aside0.mk (blk_alloc BB.out _)).out 3).trans rfl, (blk_cell (Aside0.mk (blk_alloc BL.out _)).out 0).trans rfl⟩ (fun hHeld => ?_)
      clear hK K
      refine norm_ (a' := ?_) ?_ ?_
      rotate_left
      · show Act.put _ (some 16) _ = _
        simp only [Act.put, List.setIfInBounds_toArray, List.set_cons_zero, List.set_cons_succ, i64_w, i32_w]
        rfl
      refine one_ (i := 3) (N := some 67) #[true, true, true, true, true, true, true, false, false, false, false, false, false, false, false, false, false, false, true, false] rfl rfl (by kernel_rfl) (by decide) (fun K hK => ?_)
      refine call_ 15 #[.int .i64 a0_10, .pointer (some ⟨gl, 0, none⟩)] (by rfl) rfl (by first | (go_simp; done) | (go_simp; rfl)) ?_
      with_reducible refine (spell_Of.clo _ L _ h10 gl _ ((blk_cell (Aside0.mk (blk_alloc BL.out _)).out 0).trans rfl)).mono ?_
      rintro e wd ⟨rfl, rfl⟩
      refine ⟨_, rfl, ?_⟩
      refine hK.out _ _ ⟨(blk_cell (Aside0.mk (blk_alloc BB.out _)).out 10).trans rfl, (blk_cell (Aside0.mk (blk_alloc BB.out _)).out 1).trans rfl, (blk_cell (Aside0.mk (blk_alloc BB.out _)).out 3).trans rfl, (blk_cell (Aside0.mk (blk_alloc BL.out _)).out 0).trans rfl⟩ (fun hHeld => ?_)
      clear hK K
      refine norm_ (a' := ?_) ?_ ?_
      rotate_left
      · show Act.put _ (some 67) _ = _
        simp only [Act.put, List.setIfInBounds_toArray, List.set_cons_zero, List.set_cons_succ, i64_w, i32_w]
        rfl
      refine one_ (i := 7) (N := some 71) #[true, true, true, true, true, true, true, true, false, false, false, false, false, false, false, false, false, false, true, false] rfl rfl (by kernel_rfl) (by decide) (fun K hK => ?_)
      refine call_ 15 #[.int .i64 a0_1, .pointer (some ⟨gl, 0, none⟩)] (by rfl) rfl (by first | (go_simp; done) | (go_simp; rfl)) ?_
      with_reducible refine (spell_Of.clo _ L _ h1 gl _ ((blk_cell (Aside0.mk (blk_alloc BL.out _)).out 0).trans rfl)).mono ?_
      rintro e wd ⟨rfl, rfl⟩
      refine ⟨_, rfl, ?_⟩
      refine hK.out _ _ ⟨(blk_cell (Aside0.mk (blk_alloc BB.out _)).out 10).trans rfl, (blk_cell (Aside0.mk (blk_alloc BB.out _)).out 1).trans rfl, (blk_cell (Aside0.mk (blk_alloc BB.out _)).out 3).trans rfl, (blk_cell (Aside0.mk (blk_alloc BL.out _)).out 0).trans rfl⟩ (fun hHeld => ?_)
      clear hK K
      refine norm_ (a' := ?_) ?_ ?_
      rotate_left
      · show Act.put _ (some 71) _ = _
        simp only [Act.put, List.setIfInBounds_toArray, List.set_cons_zero, List.set_cons_succ, i64_w, i32_w]
        rfl
      refine pure_ (i := 8) (N := some 72) (v := ?_) (a' := ?_) #[true, true, true, true, true, true, true, true, true, false, false, false, false, false, false, false, false, false, true, false] rfl rfl (by kernel_rfl) (fun _ _ _ h => h) (Or.inl ⟨by rfl, ?_⟩) ?_ ?_
      rotate_left
      · intro w'
        go_simp
        with_reducible rfl
      rotate_left
      · simp only [Act.put, List.setIfInBounds_toArray, List.set_cons_zero, List.set_cons_succ, i64_w, i32_w]
        rfl
      refine pure_ (i := 9) (N := some 73) (v := ?_) (a' := ?_) #[true, true, true, true, true, true, true, true, true, true, false, false, false, false, false, false, false, false, true, false] rfl rfl (by kernel_rfl) (fun _ _ _ h => h) (Or.inl ⟨by rfl, ?_⟩) ?_ ?_
      rotate_left
      · intro w'
        go_simp
        with_reducible rfl
      rotate_left
      · simp only [Act.put, List.setIfInBounds_toArray, List.set_cons_zero, List.set_cons_succ, i64_w, i32_w]
        rfl
      refine pure_ (i := 10) (N := some 74) (v := ?_) (a' := ?_) #[true, true, true, true, true, true, true, true, true, true, true, false, false, false, false, false, false, false, true, false] rfl rfl (by kernel_rfl) (fun _ _ _ h => h) (Or.inl ⟨by rfl, ?_⟩) ?_ ?_
      rotate_left
      · intro w'
        go_simp
        with_reducible rfl
      rotate_left
      · simp only [Act.put, List.setIfInBounds_toArray, List.set_cons_zero, List.set_cons_succ, i64_w, i32_w]
        rfl
      refine pure_ (i := 11) (N := some 75) (v := undef) (a' := ?_) #[true, true, true, true, true, true, true, true, true, true, true, true, false, false, false, false, false, false, true, false] rfl rfl (by kernel_rfl) (fun _ _ _ h => h) (Or.inr ⟨by rfl, rfl⟩) ?_ ?_
      rotate_left
      · simp only [Act.put, List.setIfInBounds_toArray, List.set_cons_zero, List.set_cons_succ, i64_w, i32_w]
        rfl
      refine pure_ (i := 12) (N := some 76) (v := undef) (a' := ?_) #[true, true, true, true, true, true, true, true, true, true, true, true, true, false, false, false, false, false, true, false] rfl rfl (by kernel_rfl) (fun _ _ _ h => h) (Or.inr ⟨by rfl, rfl⟩) ?_ ?_
      rotate_left
      · simp only [Act.put, List.setIfInBounds_toArray, List.set_cons_zero, List.set_cons_succ, i64_w, i32_w]
        rfl
      refine pure_ (i := 13) (N := some 77) (v := undef) (a' := ?_) #[true, true, true, true, true, true, true, true, true, true, true, true, true, true, false, false, false, false, true, false] rfl rfl (by kernel_rfl) (fun _ _ _ h => h) (Or.inr ⟨by rfl, rfl⟩) ?_ ?_
      rotate_left
      · simp only [Act.put, List.setIfInBounds_toArray, List.set_cons_zero, List.set_cons_succ, i64_w, i32_w]
        rfl
      refine pure_ (i := 14) (N := some 78) (v := undef) (a' := ?_) #[true, true, true, true, true, true, true, true, true, true, true, true, true, true, true, false, false, false, true, false] rfl rfl (by kernel_rfl) (fun _ _ _ h => h) (Or.inr ⟨by rfl, rfl⟩) ?_ ?_
      rotate_left
      · simp only [Act.put, List.setIfInBounds_toArray, List.set_cons_zero, List.set_cons_succ, i64_w, i32_w]
        rfl
      refine pure_ (i := 15) (N := some 79) (v := ?_) (a' := ?_) #[true, true, true, true, true, true, true, true, true, true, true, true, true, true, true, true, false, false, true, false] rfl rfl (by kernel_rfl) (fun _ _ _ h => h) (Or.inl ⟨by rfl, ?_⟩) ?_ ?_
      rotate_left
      · intro w'
        go_simp
        with_reducible rfl
      rotate_left
      · simp only [Act.put, List.setIfInBounds_toArray, List.set_cons_zero, List.set_cons_succ, i64_w, i32_w]
        rfl
      refine pure_ (i := 16) (N := some 80) (v := ?_) (a' := ?_) #[true, true, true, true, true, true, true, true, true, true, true, true, true, true, true, true, true, false, true, false] rfl rfl (by kernel_rfl) (fun _ _ _ h => h) (Or.inl ⟨by rfl, ?_⟩) ?_ ?_
      rotate_left
      · intro w'
        go_simp
        with_reducible rfl
      rotate_left
      · simp only [Act.put, List.setIfInBounds_toArray, List.set_cons_zero, List.set_cons_succ, i64_w, i32_w]
        rfl
      refine pure_ (i := 17) (N := some 81) (v := ?_) (a' := ?_) #[true, true, true, true, true, true, true, true, true, true, true, true, true, true, true, true, true, true, true, false] rfl rfl (by kernel_rfl) (fun _ _ _ h => h) (Or.inl ⟨by rfl, ?_⟩) ?_ ?_
      rotate_left
      · intro w'
        go_simp
        with_reducible rfl
      rotate_left
      · simp only [Act.put, List.setIfInBounds_toArray, List.set_cons_zero, List.set_cons_succ, i64_w, i32_w]
        rfl
      exact norm_ (by simp only [putAll, Act.put, List.setIfInBounds_toArray, List.set_cons_zero, List.set_cons_succ]) (hCont wd.heap.size _ ⟨blk_new _ _, ⟨Nat.ne_of_lt (blk_lt BR.out), Nat.ne_of_lt (blk_lt BL.out), Nat.ne_of_lt (blk_lt BB.out), below_size HB.out⟩, blk_alloc BB.out _, blk_alloc BR.out _, blk_alloc BL.out _, below_alloc HB.out _⟩)
  rintro s wx ⟨BX, ⟨nr, nl, nb, SX⟩, BB1, BR1, BL1, HB1⟩
  replace BB := Aside0.mk BB1
  replace BR := Aside0.mk BR1
  replace BL := Aside0.mk BL1
  replace HB := Aside0.mk HB1
  clear BB1 BR1 BL1 HB1
  have hHeld : (wx.cell? ⟨gb, 10, none⟩ = some (.int .i64 a0_10) ∧ wx.cell? ⟨gb, 1, none⟩ = some (.int .i64 a0_1) ∧ wx.cell? ⟨gb, 3, none⟩ = some (.int .i64 a0_3) ∧ wx.cell? ⟨gl, 0, none⟩ = some (.int .i64 L)) := ⟨(blk_cell BB.out 10).trans rfl, (blk_cell BB.out 1).trans rfl, (blk_cell BB.out 3).trans rfl, (blk_cell BL.out 0).trans rfl⟩
  refine norm_ (a' := ?_) ?_ ?_
  rotate_left
  · simp only [putAll, Act.put, List.setIfInBounds_toArray, List.set_cons_zero, List.set_cons_succ]
    rfl
  refine last_ (i := 19) (N := none) #[true, true, true, true, true, true, true, true, true, true, true, true, true, true, true, true, true, true, true, true] rfl rfl (by kernel_rfl) (by decide) (fun K hK => ?_)
  rw [if_pos (by rfl)]
  refine wp_store_row 29 _ _ rfl s #[.bool false, .bool false, .bool b10, .bool false, .bool false, .bool false, .bool false] rfl rfl 29 #[.bool false, .bool false, .bool false, .bool false, .bool false, .bool false, .bool false] BX (by kernel_rfl) rfl (by first | kernel_rfl | (simp [Value.oneCell']; done) | decide) ?_
  refine hK.out _ _ ?_
  clear hK K
  refine done_ (by kernel_rfl) ?_
  obtain ⟨wq, hwq⟩ : ∃ wq, wq = wx.setRow s #[.bool false, .bool false, .bool b10, .bool false, .bool false, .bool false, .bool false] := ⟨_, rfl⟩
  rw [← hwq]
  replace BX := Aside0.mk (show wq.heap[s]? = some (.cells #[.bool false, .bool false, .bool b10, .bool false, .bool false, .bool false, .bool false] 29 (0, 0)) by subst hwq; exact setRow_heap _ _ _ _ _ _ BX)
  replace BB := Aside0.mk (show wq.heap[gb]? = some (.cells #[.int .i64 a0_0, .int .i64 a0_1, .int .i64 a0_2, .int .i64 a0_3, .int .i64 a0_4, .int .i64 a0_5, .int .i64 a0_6, .int .i64 a0_7, .int .i64 a0_8, .int .i64 a0_9, .int .i64 a0_10, .int .i64 a0_11, .int .i64 a0_12, .int .i64 a0_13, .int .i64 a0_14, .int .i64 a0_15, .int .i64 a0_16, .int .i64 a0_17, .int .i64 a0_18] 23 (0, 0)) by subst hwq; exact (setRow_other _ _ _ _ nb).trans BB.out)
  replace BR := Aside0.mk (show wq.heap[gr]? = some (.cells #[.bool false, .bool false, .bool false, .bool false, .bool false, .bool false, .bool false] 29 (0, 0)) by subst hwq; exact (setRow_other _ _ _ _ nr).trans BR.out)
  replace BL := Aside0.mk (show wq.heap[gl]? = some (.cells #[.int .i64 L] 3 (0, 0)) by subst hwq; exact (setRow_other _ _ _ _ nl).trans BL.out)
  replace HB := Aside0.mk (show Below w.heap.size w wq by subst hwq; exact below_setRow HB.out SX _)
  clear hwq hHeld
  have hlc : wq.cell? ⟨gl, 0, none⟩ = some (.int .i64 L) := (blk_cell BL.out 0).trans rfl
  have hc2 : wq.cell? ⟨gb, 2, none⟩ = some (.int .i64 a0_2) := (blk_cell BB.out 2).trans rfl
  have hx0 : wq.cell? ⟨s, 0, none⟩ = some (.bool false) := (blk_cell BX.out 0).trans rfl
  have hx1 : wq.cell? ⟨s, 1, none⟩ = some (.bool false) := (blk_cell BX.out 1).trans rfl
  have hxf : wq.frozen? ⟨s, 1, none⟩ = false := blk_frozen BX.out 1
  go_wp2_with (first | (go_at_call 15; refine (spell_Of.clo _ L _ h2 gl _ hlc).mono ?_; rintro e wq ⟨rfl, rfl⟩) | ((with_reducible refine gate_store (t := 4) (p := 94) rfl ?_); refine store_event (t := 4) (p := 94) (v := .tmp 93) (w1 := (wq.setCell ⟨s, 1, none⟩ (.bool b2))) ?hg ?ho ?hn ?hr ?_; (case ho => rfl); (case hg => rfl); (case hn => rfl); (case hr => first | (go_simp; done) | (go_simp; rfl)); intro wz hw; replace BX := Aside0.mk (show wz.heap[s]? = some (.cells #[.bool false, .bool b2, .bool b10, .bool false, .bool false, .bool false, .bool false] 29 (0, 0)) by subst hw; exact blk_put BX.out 1 _ rfl); replace BR := Aside0.mk (show wz.heap[gr]? = some (.cells #[.bool false, .bool false, .bool false, .bool false, .bool false, .bool false, .bool false] 29 (0, 0)) by subst hw; exact blk_far BR.out nr _); replace HB := Aside0.mk (show Below w.heap.size w wz by subst hw; exact below_set HB.out SX); clear hw hlc hc2 hx0 hx1 hxf BB BL) | ((with_reducible refine gate_dst (N := 95) rfl ?_); refine wpList_load_row rfl 29 (.tmp 16) rfl s rfl 29 #[.bool false, .bool b2, .bool b10, .bool false, .bool false, .bool false, .bool false] (0, 0) _ BX.out Try.underlying29 rfl (by kernel_rfl) ?_) | ((with_reducible refine gate_store (t := 29) (p := 10) rfl ?_); refine wpList_store_row rfl 29 _ _ rfl gr #[.bool false, .bool b2, .bool b10, .bool false, .bool false, .bool false, .bool false] rfl rfl 29 #[.bool false, .bool false, .bool false, .bool false, .bool false, .bool false, .bool false] BR.out (by kernel_rfl) rfl (by first | kernel_rfl | (simp [Value.oneCell']; done) | decide) ?_))
  all_goals refine bodyPost_ret (spell_Of.results_c rfl _ _ gr 29 #[.bool false, .bool b2, .bool b10, .bool false, .bool false, .bool false, .bool false] (0, 0) _ (.int .i64 0) rfl rfl (setRow_heap _ _ _ _ _ _ BR.out) Try.underlying29 rfl (by kernel_rfl)) rfl ?_
  all_goals exact ⟨rfl, below_setRow HB.out SR.out _⟩
def spell_Of.f (k : Nat) (a0_0 : Int) (a0_1 : Int) (a0_2 : Int) (a0_3 : Int) (a0_4 : Int) (a0_5 : Int) (a0_6 : Int) (a0_7 : Int) (a0_8 : Int) (a0_9 : Int) (a0_10 : Int) (a0_11 : Int) (a0_12 : Int) (a0_13 : Int) (a0_14 : Int) (a0_15 : Int) (a0_16 : Int) (a0_17 : Int) (a0_18 : Int) (a1_0 : Int) (a1_1 : Int) (a2 : Int) (a3 : Bool) (a4 : Bool) : Option (Bool × Bool × Bool × Bool × Bool × Bool × Bool × Int) := (spell_check.f k a0_0 a0_1 a0_2 a0_3 a0_4 a0_5 a0_6 a0_7 a0_8 a0_9 a0_10 a0_11 a0_12 a0_13 a0_14 a0_15 a0_16 a0_17 a0_18 a1_0 a1_1 a2).bind fun t => if t = 0 then some ((spell_Of.sp (decide (wrap64 (a1_1 - a1_0) ≥ a0_13)) (decide (wrap64 (a1_1 - a1_0) ≥ a0_12)) (decide (wrap64 (a1_1 - a1_0) ≥ a0_8)) (decide (wrap64 ((if a1_1 ≤ wrap64 (a2 + a0_11) then a1_1 else wrap64 (a2 + a0_11)) - a1_0) < a0_7)) (decide (wrap64 (a1_1 - a1_0) ≥ a0_10)) (decide (wrap64 (a1_1 - a1_0) ≥ a0_1)) (decide (wrap64 (a1_1 - a1_0) ≥ a0_3)) (decide (wrap64 (a1_1 - a1_0) ≥ a0_2)) a3 a4).1, (spell_Of.sp (decide (wrap64 (a1_1 - a1_0) ≥ a0_13)) (decide (wrap64 (a1_1 - a1_0) ≥ a0_12)) (decide (wrap64 (a1_1 - a1_0) ≥ a0_8)) (decide (wrap64 ((if a1_1 ≤ wrap64 (a2 + a0_11) then a1_1 else wrap64 (a2 + a0_11)) - a1_0) < a0_7)) (decide (wrap64 (a1_1 - a1_0) ≥ a0_10)) (decide (wrap64 (a1_1 - a1_0) ≥ a0_1)) (decide (wrap64 (a1_1 - a1_0) ≥ a0_3)) (decide (wrap64 (a1_1 - a1_0) ≥ a0_2)) a3 a4).2.1, (spell_Of.sp (decide (wrap64 (a1_1 - a1_0) ≥ a0_13)) (decide (wrap64 (a1_1 - a1_0) ≥ a0_12)) (decide (wrap64 (a1_1 - a1_0) ≥ a0_8)) (decide (wrap64 ((if a1_1 ≤ wrap64 (a2 + a0_11) then a1_1 else wrap64 (a2 + a0_11)) - a1_0) < a0_7)) (decide (wrap64 (a1_1 - a1_0) ≥ a0_10)) (decide (wrap64 (a1_1 - a1_0) ≥ a0_1)) (decide (wrap64 (a1_1 - a1_0) ≥ a0_3)) (decide (wrap64 (a1_1 - a1_0) ≥ a0_2)) a3 a4).2.2.1, (spell_Of.sp (decide (wrap64 (a1_1 - a1_0) ≥ a0_13)) (decide (wrap64 (a1_1 - a1_0) ≥ a0_12)) (decide (wrap64 (a1_1 - a1_0) ≥ a0_8)) (decide (wrap64 ((if a1_1 ≤ wrap64 (a2 + a0_11) then a1_1 else wrap64 (a2 + a0_11)) - a1_0) < a0_7)) (decide (wrap64 (a1_1 - a1_0) ≥ a0_10)) (decide (wrap64 (a1_1 - a1_0) ≥ a0_1)) (decide (wrap64 (a1_1 - a1_0) ≥ a0_3)) (decide (wrap64 (a1_1 - a1_0) ≥ a0_2)) a3 a4).2.2.2.1, (spell_Of.sp (decide (wrap64 (a1_1 - a1_0) ≥ a0_13)) (decide (wrap64 (a1_1 - a1_0) ≥ a0_12)) (decide (wrap64 (a1_1 - a1_0) ≥ a0_8)) (decide (wrap64 ((if a1_1 ≤ wrap64 (a2 + a0_11) then a1_1 else wrap64 (a2 + a0_11)) - a1_0) < a0_7)) (decide (wrap64 (a1_1 - a1_0) ≥ a0_10)) (decide (wrap64 (a1_1 - a1_0) ≥ a0_1)) (decide (wrap64 (a1_1 - a1_0) ≥ a0_3)) (decide (wrap64 (a1_1 - a1_0) ≥ a0_2)) a3 a4).2.2.2.2.1, (spell_Of.sp (decide (wrap64 (a1_1 - a1_0) ≥ a0_13)) (decide (wrap64 (a1_1 - a1_0) ≥ a0_12)) (decide (wrap64 (a1_1 - a1_0) ≥ a0_8)) (decide (wrap64 ((if a1_1 ≤ wrap64 (a2 + a0_11) then a1_1 else wrap64 (a2 + a0_11)) - a1_0) < a0_7)) (decide (wrap64 (a1_1 - a1_0) ≥ a0_10)) (decide (wrap64 (a1_1 - a1_0) ≥ a0_1)) (decide (wrap64 (a1_1 - a1_0) ≥ a0_3)) (decide (wrap64 (a1_1 - a1_0) ≥ a0_2)) a3 a4).2.2.2.2.2.1, (spell_Of.sp (decide (wrap64 (a1_1 - a1_0) ≥ a0_13)) (decide (wrap64 (a1_1 - a1_0) ≥ a0_12)) (decide (wrap64 (a1_1 - a1_0) ≥ a0_8)) (decide (wrap64 ((if a1_1 ≤ wrap64 (a2 + a0_11) then a1_1 else wrap64 (a2 + a0_11)) - a1_0) < a0_7)) (decide (wrap64 (a1_1 - a1_0) ≥ a0_10)) (decide (wrap64 (a1_1 - a1_0) ≥ a0_1)) (decide (wrap64 (a1_1 - a1_0) ≥ a0_3)) (decide (wrap64 (a1_1 - a1_0) ≥ a0_2)) a3 a4).2.2.2.2.2.2, 0) else some (false, false, false, false, false, false, false, t)
theorem spell_Of.mono : ∀ a0_0 a0_1 a0_2 a0_3 a0_4 a0_5 a0_6 a0_7 a0_8 a0_9 a0_10 a0_11 a0_12 a0_13 a0_14 a0_15 a0_16 a0_17 a0_18 a1_0 a1_1 a2 a3 a4 k, LeO (spell_Of.f k a0_0 a0_1 a0_2 a0_3 a0_4 a0_5 a0_6 a0_7 a0_8 a0_9 a0_10 a0_11 a0_12 a0_13 a0_14 a0_15 a0_16 a0_17 a0_18 a1_0 a1_1 a2 a3 a4) (spell_Of.f (k + 1) a0_0 a0_1 a0_2 a0_3 a0_4 a0_5 a0_6 a0_7 a0_8 a0_9 a0_10 a0_11 a0_12 a0_13 a0_14 a0_15 a0_16 a0_17 a0_18 a1_0 a1_1 a2 a3 a4) := by
  intro a0_0 a0_1 a0_2 a0_3 a0_4 a0_5 a0_6 a0_7 a0_8 a0_9 a0_10 a0_11 a0_12 a0_13 a0_14 a0_15 a0_16 a0_17 a0_18 a1_0 a1_1 a2 a3 a4 k
  unfold spell_Of.f
  exact LeO.bind (spell_check.mono _ _ _ _ _ _ _ _ _ _ _ _ _ _ _ _ _ _ _ _ _ _ _) (fun _ => LeO.refl _)
set_option maxHeartbeats 8000000 in
set_option maxRecDepth 100000 in
theorem spell_Of.calls (k : Nat) (a0_0 : Int) (a0_1 : Int) (a0_2 : Int) (a0_3 : Int) (a0_4 : Int) (a0_5 : Int) (a0_6 : Int) (a0_7 : Int) (a0_8 : Int) (a0_9 : Int) (a0_10 : Int) (a0_11 : Int) (a0_12 : Int) (a0_13 : Int) (a0_14 : Int) (a0_15 : Int) (a0_16 : Int) (a0_17 : Int) (a0_18 : Int) (a1_0 : Int) (a1_1 : Int) (a2 : Int) (a3 : Bool) (a4 : Bool) (r1 : Bool) (r2 : Bool) (r3 : Bool) (r4 : Bool) (r5 : Bool) (r6 : Bool) (r7 : Bool) (r8 : Int) (w : World) (h : spell_Of.f k a0_0 a0_1 a0_2 a0_3 a0_4 a0_5 a0_6 a0_7 a0_8 a0_9 a0_10 a0_11 a0_12 a0_13 a0_14 a0_15 a0_16 a0_17 a0_18 a1_0 a1_1 a2 a3 a4 = some (r1, r2, r3, r4, r5, r6, r7, r8)) :
    Calls Try.prog 7 #[.agg #[.int .i64 a0_0, .int .i64 a0_1, .int .i64 a0_2, .int .i64 a0_3, .int .i64 a0_4, .int .i64 a0_5, .int .i64 a0_6, .int .i64 a0_7, .int .i64 a0_8, .int .i64 a0_9, .int .i64 a0_10, .int .i64 a0_11, .int .i64 a0_12, .int .i64 a0_13, .int .i64 a0_14, .int .i64 a0_15, .int .i64 a0_16, .int .i64 a0_17, .int .i64 a0_18], .agg #[.int .i64 a1_0, .int .i64 a1_1], .int .i64 a2, .bool a3, .bool a4] w fun e w' => e = .returned (.tuple #[.agg #[.bool r1, .bool r2, .bool r3, .bool r4, .bool r5, .bool r6, .bool r7], .int .i64 r8]) ∧ Below w.heap.size w w' := by
  unfold spell_Of.f at h
  obtain ⟨t, ht, h⟩ := Option.bind_eq_some_iff.mp h
  have hchk : ∀ w : World, Calls Try.prog 14 #[.agg #[.int .i64 a0_0, .int .i64 a0_1, .int .i64 a0_2, .int .i64 a0_3, .int .i64 a0_4, .int .i64 a0_5, .int .i64 a0_6, .int .i64 a0_7, .int .i64 a0_8, .int .i64 a0_9, .int .i64 a0_10, .int .i64 a0_11, .int .i64 a0_12, .int .i64 a0_13, .int .i64 a0_14, .int .i64 a0_15, .int .i64 a0_16, .int .i64 a0_17, .int .i64 a0_18], .agg #[.int .i64 a1_0, .int .i64 a1_1], .int .i64 a2] w fun e w' => e = .returned (.int .i64 t) ∧ Below w.heap.size w w' := fun w => spell_check.calls k a0_0 a0_1 a0_2 a0_3 a0_4 a0_5 a0_6 a0_7 a0_8 a0_9 a0_10 a0_11 a0_12 a0_13 a0_14 a0_15 a0_16 a0_17 a0_18 a1_0 a1_1 a2 t w ht
  clear ht
  by_cases c : t = 0
  · subst c
    rw [if_pos rfl] at h
    simp only [Option.some.injEq, Prod.mk.injEq] at h
    obtain ⟨rfl, rfl, rfl, rfl, rfl, rfl, rfl, rfl⟩ := h
    obtain ⟨L, hL⟩ : ∃ L, wrap64 (a1_1 - a1_0) = L := ⟨_, rfl⟩
    simp only [hL]
    cases h13 : decide (L ≥ a0_13)
    · cases h8 : decide (L ≥ a0_8)
      · cases h10 : decide (L ≥ a0_10) <;> cases h1 : decide (L ≥ a0_1) <;> cases a3
        all_goals first
          | exact spell_Of.c1 a0_0 a0_1 a0_2 a0_3 a0_4 a0_5 a0_6 a0_7 a0_8 a0_9 a0_10 a0_11 a0_12 a0_13 a0_14 a0_15 a0_16 a0_17 a0_18 a1_0 a1_1 a2 _ _ a4 L hL w h13 h8 h10 h1 hchk
          | (cases h2 : decide (L ≥ a0_2) <;> exact spell_Of.c4 a0_0 a0_1 a0_2 a0_3 a0_4 a0_5 a0_6 a0_7 a0_8 a0_9 a0_10 a0_11 a0_12 a0_13 a0_14 a0_15 a0_16 a0_17 a0_18 a1_0 a1_1 a2 _ _ a4 L hL w h13 h8 h10 h1 h2 hchk)
          | (cases h3 : decide (L ≥ a0_3); · exact spell_Of.c3 a0_0 a0_1 a0_2 a0_3 a0_4 a0_5 a0_6 a0_7 a0_8 a0_9 a0_10 a0_11 a0_12 a0_13 a0_14 a0_15 a0_16 a0_17 a0_18 a1_0 a1_1 a2 _ a4 L hL w h13 h8 h10 h1 h3 hchk
             · exact spell_Of.c2 a0_0 a0_1 a0_2 a0_3 a0_4 a0_5 a0_6 a0_7 a0_8 a0_9 a0_10 a0_11 a0_12 a0_13 a0_14 a0_15 a0_16 a0_17 a0_18 a1_0 a1_1 a2 _ a4 L hL w h13 h8 h10 h1 h3 hchk)
      · cases a4
        · by_cases hm : a1_1 ≤ wrap64 (a2 + a0_11)
          · simp only [if_pos hm, hL]
            exact spell_Of.l3a a0_0 a0_1 a0_2 a0_3 a0_4 a0_5 a0_6 a0_7 a0_8 a0_9 a0_10 a0_11 a0_12 a0_13 a0_14 a0_15 a0_16 a0_17 a0_18 a1_0 a1_1 a2 a3 L hL w h13 h8 hm hchk
          · simp only [if_neg hm]
            exact spell_Of.l3b a0_0 a0_1 a0_2 a0_3 a0_4 a0_5 a0_6 a0_7 a0_8 a0_9 a0_10 a0_11 a0_12 a0_13 a0_14 a0_15 a0_16 a0_17 a0_18 a1_0 a1_1 a2 a3 L hL w h13 h8 hm hchk
        · exact spell_Of.l2 a0_0 a0_1 a0_2 a0_3 a0_4 a0_5 a0_6 a0_7 a0_8 a0_9 a0_10 a0_11 a0_12 a0_13 a0_14 a0_15 a0_16 a0_17 a0_18 a1_0 a1_1 a2 a3 L hL w h13 h8 hchk
    · exact spell_Of.l1 a0_0 a0_1 a0_2 a0_3 a0_4 a0_5 a0_6 a0_7 a0_8 a0_9 a0_10 a0_11 a0_12 a0_13 a0_14 a0_15 a0_16 a0_17 a0_18 a1_0 a1_1 a2 (decide (L ≥ a0_12)) a3 a4 L hL w h13 rfl hchk
  · rw [if_neg c] at h
    simp only [Option.some.injEq, Prod.mk.injEq] at h
    obtain ⟨rfl, rfl, rfl, rfl, rfl, rfl, rfl, rfl⟩ := h
    exact spell_Of.l0 a0_0 a0_1 a0_2 a0_3 a0_4 a0_5 a0_6 a0_7 a0_8 a0_9 a0_10 a0_11 a0_12 a0_13 a0_14 a0_15 a0_16 a0_17 a0_18 a1_0 a1_1 a2 t a3 a4 _ rfl w c (beq_eq_false_iff_ne.mpr c) hchk

end Go.Proofs.Ytlkoapcaboinaaa.MSpellWorth
