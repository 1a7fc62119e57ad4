/- The reader of numbers: take, change. -/
import Derived.Test.YtjpnfhnmcgejhaaDc4
import Derived.Test.YtjpnfhnmcgejhaaMSumTakex1
import Derived.Test.YtjpnfhnmcgejhaaMDiscToldx1
namespace Go.Proofs.Ytjpnfhnmcgejhaa.Dd1
open Go.RowKit Go.Proofs.YtjpnfhnmcgejhaaW.PrintWords Go.Proofs.YtjpnfhnmcgejhaaW.PrintLast Go.Proofs.YtjpnfhnmcgejhaaW.PrintMore Go.Proofs.Ytjpnfhnmcgejhaa.MSumTake Go.Proofs.Ytjpnfhnmcgejhaa.MDiscTold Go.Proofs.Ytjpnfhnmcgejhaa.Dc1 Go.Proofs.Ytjpnfhnmcgejhaa.Dc2 Go.Proofs.Ytjpnfhnmcgejhaa.Dc3 Go.Proofs.Ytjpnfhnmcgejhaa.Dc4
attribute [local go_sem] max2_int min2_int max_two min_two max_three min_three max_four min_four
set_option linter.unusedVariables false
set_option linter.unusedSimpArgs false
/-- The number at a place. -/
def num (s : ByteArray) (q : Nat) : Option Int := if q + 2 ≤ s.size then some (256 * bt s (q : Int) + bt s ((q : Int) + 1)) else none
theorem num_rng {s : ByteArray} {q : Nat} {n : Int} (h : num s q = some n) : 0 ≤ n ∧ n ≤ 65535 ∧ q + 2 ≤ s.size := by
  unfold num at h
  split at h
  · rename_i hq
    have h1 := bt_range s (q : Int)
    have h2 := bt_range s ((q : Int) + 1)
    have h3 := Option.some.inj h
    omega
  · cases h
theorem take_fy {s : ByteArray} {q : Nat} {n : Int} (hs : s.size ≤ 1000000000) (h : num s q = some n) : sum16_Take.f s (q : Int) = some (n, 0) := by
  have hr := num_rng h
  unfold num at h
  rw [if_pos hr.2.2] at h
  have h1 := bt_range s (q : Int)
  have h2 := bt_range s ((q : Int) + 1)
  have w2 : wrap64 ((q : Int) + 1) = (q : Int) + 1 := by unfold wrap64; omega
  have w3 : wrap64 ((s.size : Int) - 2) = (s.size : Int) - 2 := by unfold wrap64; omega
  have w4 : wrap64 (bt s (q : Int)) = bt s (q : Int) := by unfold wrap64; omega
  have w5 : wrap64 (bt s ((q : Int) + 1)) = bt s ((q : Int) + 1) := by unfold wrap64; omega
  have w6 : wrap64 (bt s (q : Int) * 256) = bt s (q : Int) * 256 := by unfold wrap64; omega
  unfold sum16_Take.f
  rw [if_neg (by omega), w3, if_neg (by omega), if_pos (by omega), if_pos (by omega), w2, if_pos (by omega), if_pos (by omega), w4, w5, w6,
    bits_join .i64 16 (by decide) (fun n h0 h1 => by rw [IntKind.wrap_i64]; omega) 8 (bt s (q : Int) * 256) (bt s ((q : Int) + 1)) (by omega) (by omega) (by omega) (by omega) (by omega) (by omega)]
  rw [← Option.some.inj h, Int.mul_comm]
theorem take_fn {s : ByteArray} {q : Nat} (hs : s.size ≤ 1000000000) (h : num s q = none) : sum16_Take.f s (q : Int) = some (0, 8) := by
  unfold num at h
  split at h
  · cases h
  · rename_i hq
    have w3 : wrap64 ((s.size : Int) - 2) = (s.size : Int) - 2 := by unfold wrap64; omega
    unfold sum16_Take.f
    rw [if_neg (by omega), w3, if_pos (by omega)]
/-- Block g is a reader of s, at q. -/
def IsRd (w : World) (g : Nat) (s : ByteArray) (q : Nat) : Prop := w.heap[g]? = some (.cells #[.string s, .int .i64 (q : Int)] 60 (0, 0))
set_option maxHeartbeats 8000000 in
set_option maxRecDepth 100000 in
theorem take_y (g : Nat) (s : ByteArray) (q : Nat) (hs : s.size ≤ 1000000000) (hq : q ≤ 1000000000) (n : Int) (h : num s q = some n) (w : World) (hR : IsRd w g s q) : Calls Try.prog 36 #[.pointer (some ⟨g, 0, none⟩)] w fun e w' => e = .returned (.tuple #[.int .i64 n, .bool true]) ∧ IsRd w' g s (q + 2) ∧ WK w w' g := by
  have HT := Aside0.mk (take_fy hs h)
  have hw2 : wrap64 ((q : Int) + 2) = ((q + 2 : Nat) : Int) := by unfold wrap64; omega
  have HR := Aside0.mk hR
  have HK := Aside0.mk (WK.refl w g)
  clear hR h hs hq
  go_enter Try.func36, Try.ntmps36
  (try go_wp2)
  obtain ⟨wv, hwv⟩ : ∃ wv, wv = w := ⟨_, rfl⟩
  replace HR := Aside0.mk (show IsRd wv g s q by rw [hwv]; exact HR.out)
  replace HK := Aside0.mk (show WK w wv g by rw [hwv]; exact HK.out)
  obtain ⟨w0, hw0⟩ : ∃ w0, w0 = w := ⟨_, rfl⟩
  rw [← hw0] at HK ⊢
  rw [hw0.trans hwv.symm]
  rw [hw0] at HK
  clear hw0 w0
  clear hwv
  refine start_ (n := 14) (S := fun w' => w'.cell? ⟨g, 0, none⟩ = some (.string s) ∧ w'.cell? ⟨g, 1, none⟩ = some (.int .i64 (q : Int))) (ds := []) #[false, false, false, false, false, false, false, false, false, false, false, false, false, false] (by kernel_rfl) rfl rfl ⟨(blk_cell HR.out 0).trans rfl, (blk_cell HR.out 1).trans rfl⟩ (fun hHeld => ?_)
  replace HR := Aside0.mk (show IsRd wv.drew g s q from HR.out)
  replace HK := Aside0.mk (show WK w wv.drew g from ⟨HK.out.os, HK.out.tape, HK.out.output, HK.out.size, HK.out.block⟩)
  generalize wv.drew = wv at HR HK hHeld ⊢
  refine pure_ (i := 0) (N := some 7) (v := ?_) (a' := ?_) #[true, false, false, false, false, false, false, false, false, false, false, false, false, false] rfl rfl (by kernel_rfl) (fun _ _ _ h => h) (Or.inl ⟨by rfl, ?_⟩) ?_ ?_
  rotate_left
  · intro w'
    go_simp
    with_reducible rfl
  rotate_left
  · simp only [Act.put, List.setIfInBounds_toArray, List.set_cons_zero, List.set_cons_succ, i64_w, i32_w]
    rfl
  refine pure_ (i := 1) (N := some 8) (v := ?_) (a' := ?_) #[true, true, false, false, false, false, false, false, false, false, false, false, false, false] rfl rfl (by kernel_rfl) (fun _ _ _ h => h) (Or.inl ⟨by rfl, ?_⟩) ?_ ?_
  rotate_left
  · intro w'
    go_simp
    with_reducible rfl
  rotate_left
  · simp only [Act.put, List.setIfInBounds_toArray, List.set_cons_zero, List.set_cons_succ, i64_w, i32_w]
    rfl
  refine pure_ (i := 2) (N := some 9) (v := ?_) (a' := ?_) #[true, true, true, false, false, false, false, false, false, false, false, false, false, false] rfl rfl (by kernel_rfl) (fun _ _ _ h => h) (Or.inl ⟨by rfl, ?_⟩) ?_ ?_
  rotate_left
  · intro w'
    go_simp
    with_reducible rfl
  rotate_left
  · simp only [Act.put, List.setIfInBounds_toArray, List.set_cons_zero, List.set_cons_succ, i64_w, i32_w]
    rfl
  refine pure_ (i := 4) (N := some 11) (v := ?_) (a' := ?_) #[true, true, true, false, true, false, false, false, false, false, false, false, false, false] rfl rfl (by kernel_rfl) (fun _ _ _ h => h) (Or.inl ⟨by rfl, ?_⟩) ?_ ?_
  rotate_left
  · intro w'
    go_simp
    with_reducible rfl
  rotate_left
  · simp only [Act.put, List.setIfInBounds_toArray, List.set_cons_zero, List.set_cons_succ, i64_w, i32_w]
    rfl
  refine pure_ (i := 5) (N := some 12) (v := ?_) (a' := ?_) #[true, true, true, false, true, true, false, false, false, false, false, false, false, false] rfl rfl (by kernel_rfl) (fun _ _ _ h => h) (Or.inl ⟨by rfl, ?_⟩) ?_ ?_
  rotate_left
  · intro w'
    go_simp
    with_reducible rfl
  rotate_left
  · simp only [Act.put, List.setIfInBounds_toArray, List.set_cons_zero, List.set_cons_succ, i64_w, i32_w]
    rfl
  refine pure_ (i := 6) (N := some 13) (v := ?_) (a' := ?_) #[true, true, true, false, true, true, true, false, false, false, false, false, false, false] rfl rfl (by kernel_rfl) (fun _ _ _ h => h) (Or.inl ⟨by rfl, ?_⟩) ?_ ?_
  rotate_left
  · intro w'
    go_simp
    with_reducible rfl
  rotate_left
  · simp only [Act.put, List.setIfInBounds_toArray, List.set_cons_zero, List.set_cons_succ, i64_w, i32_w]
    rfl
  refine take_ (i := 3) (N := some 10) (v := ?_) (a' := ?_) #[true, true, true, true, true, true, true, false, false, false, false, false, false, false] rfl rfl (by kernel_rfl) (fun _ _ _ h => h) (Or.inl ⟨by rfl, ?_⟩) hHeld ?_ ?_
  rotate_left
  · rintro w' ⟨s0, s1⟩
    go_simp
    with_reducible rfl
  rotate_left
  · simp only [Act.put, List.setIfInBounds_toArray, List.set_cons_zero, List.set_cons_succ, i64_w, i32_w]
    rfl
  refine take_ (i := 7) (N := some 14) (v := ?_) (a' := ?_) #[true, true, true, true, true, true, true, true, false, false, false, false, false, false] rfl rfl (by kernel_rfl) (fun _ _ _ h => h) (Or.inl ⟨by rfl, ?_⟩) hHeld ?_ ?_
  rotate_left
  · rintro w' ⟨s0, s1⟩
    go_simp
    with_reducible rfl
  rotate_left
  · simp only [Act.put, List.setIfInBounds_toArray, List.set_cons_zero, List.set_cons_succ, i64_w, i32_w]
    rfl
  refine one_ (i := 8) (N := some 15) #[true, true, true, true, true, true, true, true, true, false, false, false, false, false] rfl rfl (by kernel_rfl) (by decide) (fun K hK => ?_)
  refine goes_ Try.func41 (by kernel_rfl) rfl #[.string s, .int .i64 (q : Int)] (by rfl) rfl rfl (by first | rfl | (simp only [List.map_toArray, List.map_cons, List.map_nil]; rfl)) ?_
  with_reducible refine (sum16_Take.calls s (q : Int) n 0 _ HT.out).mono ?_
  rintro e wv ⟨rfl, hd⟩
  have hb := hd.below
  replace HR := Aside0.mk (show IsRd wv g s q from blk_below HR.out hb)
  replace HK := Aside0.mk (HK.out.trans (WK.of_below hb g))
  clear hb hd
  refine ⟨_, rfl, ?_⟩
  refine hK.out _ _ ⟨(blk_cell HR.out 0).trans rfl, (blk_cell HR.out 1).trans rfl⟩ (fun hHeld => ?_)
  clear hK K
  refine norm_ (a' := ?_) ?_ ?_
  rotate_left
  · show Act.put _ (some 15) _ = _
    simp only [Act.put, List.setIfInBounds_toArray, List.set_cons_zero, List.set_cons_succ, i64_w, i32_w]
    rfl
  refine pure_ (i := 9) (N := some 6) (v := ?_) (a' := ?_) #[true, true, true, true, true, true, true, true, true, true, false, false, false, false] rfl rfl (by kernel_rfl) (fun _ _ _ h => h) (Or.inl ⟨by rfl, ?_⟩) ?_ ?_
  rotate_left
  · intro w'
    go_simp
    with_reducible rfl
  rotate_left
  · simp only [Act.put, List.setIfInBounds_toArray, List.set_cons_zero, List.set_cons_succ, i64_w, i32_w]
    rfl
  refine pure_ (i := 10) (N := some 16) (v := ?_) (a' := ?_) #[true, true, true, true, true, true, true, true, true, true, true, false, false, false] rfl rfl (by kernel_rfl) (fun _ _ _ h => h) (Or.inl ⟨by rfl, ?_⟩) ?_ ?_
  rotate_left
  · intro w'
    go_simp
    with_reducible rfl
  rotate_left
  · simp only [Act.put, List.setIfInBounds_toArray, List.set_cons_zero, List.set_cons_succ, i64_w, i32_w]
    rfl
  refine pure_ (i := 11) (N := some 17) (v := ?_) (a' := ?_) #[true, true, true, true, true, true, true, true, true, true, true, true, false, false] rfl rfl (by kernel_rfl) (fun _ _ _ h => h) (Or.inl ⟨by rfl, ?_⟩) ?_ ?_
  rotate_left
  · intro w'
    go_simp
    with_reducible rfl
  rotate_left
  · simp only [Act.put, List.setIfInBounds_toArray, List.set_cons_zero, List.set_cons_succ, i64_w, i32_w]
    rfl
  refine pure_ (i := 12) (N := some 4) (v := ?_) (a' := ?_) #[true, true, true, true, true, true, true, true, true, true, true, true, true, false] rfl rfl (by kernel_rfl) (fun _ _ _ h => h) (Or.inl ⟨by rfl, ?_⟩) ?_ ?_
  rotate_left
  · intro w'
    go_simp
    with_reducible rfl
  rotate_left
  · simp only [Act.put, List.setIfInBounds_toArray, List.set_cons_zero, List.set_cons_succ, i64_w, i32_w]
    rfl
  refine pure_ (i := 13) (N := some 5) (v := ?_) (a' := ?_) #[true, true, true, true, true, true, true, true, true, true, true, true, true, true] rfl rfl (by kernel_rfl) (fun _ _ _ h => h) (Or.inl ⟨by rfl, ?_⟩) ?_ ?_
  rotate_left
  · intro w'
    go_simp
    with_reducible rfl
  rotate_left
  · simp only [Act.put, List.setIfInBounds_toArray, List.set_cons_zero, List.set_cons_succ, i64_w, i32_w]
    rfl
  refine done_ (by kernel_rfl) ?_
  have hc0 : wv.cell? ⟨g, 0, none⟩ = some (.string s) := (blk_cell HR.out 0).trans rfl
  have hc1 : wv.cell? ⟨g, 1, none⟩ = some (.int .i64 (q : Int)) := (blk_cell HR.out 1).trans rfl
  have hfz := blk_frozen HR.out 1
  go_wp2_with (first | ((with_reducible refine gate_store (t := 3) (p := 34) rfl ?_); refine store_event (t := 3) (p := 34) (v := .tmp 32) (w1 := (wv.setCell ⟨g, 1, none⟩ (.int .i64 (((q + 2 : Nat) : Int))))) ?hg ?ho ?hn ?hr ?_; (case ho => rfl); (case hg => rfl); (case hn => rfl); (case hr => first | (go_simp; done) | (go_simp; rfl)); intro wy hw; have HY := Aside0.mk hw; clear hw))
  first | go_ret | go_ret2
  have hy := HY.out
  subst hy
  exact ⟨rfl, blk_put HR.out 1 _ rfl, HK.out.set 1 _⟩
set_option maxHeartbeats 8000000 in
set_option maxRecDepth 100000 in
theorem take_n (g : Nat) (s : ByteArray) (q : Nat) (hs : s.size ≤ 1000000000) (hq : q ≤ 1000000000) (h : num s q = none) (w : World) (hR : IsRd w g s q) : Calls Try.prog 36 #[.pointer (some ⟨g, 0, none⟩)] w fun e w' => e = .returned (.tuple #[.int .i64 0, .bool false]) ∧ IsRd w' g s s.size ∧ WK w w' g := by
  have HT := Aside0.mk (take_fn hs h)
  have hw2 : wrap64 ((q : Int) + 2) = ((q + 2 : Nat) : Int) := by unfold wrap64; omega
  have HR := Aside0.mk hR
  have HK := Aside0.mk (WK.refl w g)
  clear hR h hs hq
  go_enter Try.func36, Try.ntmps36
  (try go_wp2)
  obtain ⟨wv, hwv⟩ : ∃ wv, wv = w := ⟨_, rfl⟩
  replace HR := Aside0.mk (show IsRd wv g s q by rw [hwv]; exact HR.out)
  replace HK := Aside0.mk (show WK w wv g by rw [hwv]; exact HK.out)
  obtain ⟨w0, hw0⟩ : ∃ w0, w0 = w := ⟨_, rfl⟩
  rw [← hw0] at HK ⊢
  rw [hw0.trans hwv.symm]
  rw [hw0] at HK
  clear hw0 w0
  clear hwv
  refine start_ (n := 14) (S := fun w' => w'.cell? ⟨g, 0, none⟩ = some (.string s) ∧ w'.cell? ⟨g, 1, none⟩ = some (.int .i64 (q : Int))) (ds := []) #[false, false, false, false, false, false, false, false, false, false, false, false, false, false] (by kernel_rfl) rfl rfl ⟨(blk_cell HR.out 0).trans rfl, (blk_cell HR.out 1).trans rfl⟩ (fun hHeld => ?_)
  replace HR := Aside0.mk (show IsRd wv.drew g s q from HR.out)
  replace HK := Aside0.mk (show WK w wv.drew g from ⟨HK.out.os, HK.out.tape, HK.out.output, HK.out.size, HK.out.block⟩)
  generalize wv.drew = wv at HR HK hHeld ⊢
  refine pure_ (i := 0) (N := some 7) (v := ?_) (a' := ?_) #[true, false, false, false, false, false, false, false, false, false, false, false, false, false] rfl rfl (by kernel_rfl) (fun _ _ _ h => h) (Or.inl ⟨by rfl, ?_⟩) ?_ ?_
  rotate_left
  · intro w'
    go_simp
    with_reducible rfl
  rotate_left
  · simp only [Act.put, List.setIfInBounds_toArray, List.set_cons_zero, List.set_cons_succ, i64_w, i32_w]
    rfl
  refine pure_ (i := 1) (N := some 8) (v := ?_) (a' := ?_) #[true, true, false, false, false, false, false, false, false, false, false, false, false, false] rfl rfl (by kernel_rfl) (fun _ _ _ h => h) (Or.inl ⟨by rfl, ?_⟩) ?_ ?_
  rotate_left
  · intro w'
    go_simp
    with_reducible rfl
  rotate_left
  · simp only [Act.put, List.setIfInBounds_toArray, List.set_cons_zero, List.set_cons_succ, i64_w, i32_w]
    rfl
  refine pure_ (i := 2) (N := some 9) (v := ?_) (a' := ?_) #[true, true, true, false, false, false, false, false, false, false, false, false, false, false] rfl rfl (by kernel_rfl) (fun _ _ _ h => h) (Or.inl ⟨by rfl, ?_⟩) ?_ ?_
  rotate_left
  · intro w'
    go_simp
    with_reducible rfl
  rotate_left
  · simp only [Act.put, List.setIfInBounds_toArray, List.set_cons_zero, List.set_cons_succ, i64_w, i32_w]
    rfl
  refine pure_ (i := 4) (N := some 11) (v := ?_) (a' := ?_) #[true, true, true, false, true, false, false, false, false, false, false, false, false, false] rfl rfl (by kernel_rfl) (fun _ _ _ h => h) (Or.inl ⟨by rfl, ?_⟩) ?_ ?_
  rotate_left
  · intro w'
    go_simp
    with_reducible rfl
  rotate_left
  · simp only [Act.put, List.setIfInBounds_toArray, List.set_cons_zero, List.set_cons_succ, i64_w, i32_w]
    rfl
  refine pure_ (i := 5) (N := some 12) (v := ?_) (a' := ?_) #[true, true, true, false, true, true, false, false, false, false, false, false, false, false] rfl rfl (by kernel_rfl) (fun _ _ _ h => h) (Or.inl ⟨by rfl, ?_⟩) ?_ ?_
  rotate_left
  · intro w'
    go_simp
    with_reducible rfl
  rotate_left
  · simp only [Act.put, List.setIfInBounds_toArray, List.set_cons_zero, List.set_cons_succ, i64_w, i32_w]
    rfl
  refine pure_ (i := 6) (N := some 13) (v := ?_) (a' := ?_) #[true, true, true, false, true, true, true, false, false, false, false, false, false, false] rfl rfl (by kernel_rfl) (fun _ _ _ h => h) (Or.inl ⟨by rfl, ?_⟩) ?_ ?_
  rotate_left
  · intro w'
    go_simp
    with_reducible rfl
  rotate_left
  · simp only [Act.put, List.setIfInBounds_toArray, List.set_cons_zero, List.set_cons_succ, i64_w, i32_w]
    rfl
  refine take_ (i := 3) (N := some 10) (v := ?_) (a' := ?_) #[true, true, true, true, true, true, true, false, false, false, false, false, false, false] rfl rfl (by kernel_rfl) (fun _ _ _ h => h) (Or.inl ⟨by rfl, ?_⟩) hHeld ?_ ?_
  rotate_left
  · rintro w' ⟨s0, s1⟩
    go_simp
    with_reducible rfl
  rotate_left
  · simp only [Act.put, List.setIfInBounds_toArray, List.set_cons_zero, List.set_cons_succ, i64_w, i32_w]
    rfl
  refine take_ (i := 7) (N := some 14) (v := ?_) (a' := ?_) #[true, true, true, true, true, true, true, true, false, false, false, false, false, false] rfl rfl (by kernel_rfl) (fun _ _ _ h => h) (Or.inl ⟨by rfl, ?_⟩) hHeld ?_ ?_
  rotate_left
  · rintro w' ⟨s0, s1⟩
    go_simp
    with_reducible rfl
  rotate_left
  · simp only [Act.put, List.setIfInBounds_toArray, List.set_cons_zero, List.set_cons_succ, i64_w, i32_w]
    rfl
  refine one_ (i := 8) (N := some 15) #[true, true, true, true, true, true, true, true, true, false, false, false, false, false] rfl rfl (by kernel_rfl) (by decide) (fun K hK => ?_)
  refine goes_ Try.func41 (by kernel_rfl) rfl #[.string s, .int .i64 (q : Int)] (by rfl) rfl rfl (by first | rfl | (simp only [List.map_toArray, List.map_cons, List.map_nil]; rfl)) ?_
  with_reducible refine (sum16_Take.calls s (q : Int) 0 8 _ HT.out).mono ?_
  rintro e wv ⟨rfl, hd⟩
  have hb := hd.below
  replace HR := Aside0.mk (show IsRd wv g s q from blk_below HR.out hb)
  replace HK := Aside0.mk (HK.out.trans (WK.of_below hb g))
  clear hb hd
  refine ⟨_, rfl, ?_⟩
  refine hK.out _ _ ⟨(blk_cell HR.out 0).trans rfl, (blk_cell HR.out 1).trans rfl⟩ (fun hHeld => ?_)
  clear hK K
  refine norm_ (a' := ?_) ?_ ?_
  rotate_left
  · show Act.put _ (some 15) _ = _
    simp only [Act.put, List.setIfInBounds_toArray, List.set_cons_zero, List.set_cons_succ, i64_w, i32_w]
    rfl
  refine pure_ (i := 9) (N := some 6) (v := ?_) (a' := ?_) #[true, true, true, true, true, true, true, true, true, true, false, false, false, false] rfl rfl (by kernel_rfl) (fun _ _ _ h => h) (Or.inl ⟨by rfl, ?_⟩) ?_ ?_
  rotate_left
  · intro w'
    go_simp
    with_reducible rfl
  rotate_left
  · simp only [Act.put, List.setIfInBounds_toArray, List.set_cons_zero, List.set_cons_succ, i64_w, i32_w]
    rfl
  refine pure_ (i := 10) (N := some 16) (v := ?_) (a' := ?_) #[true, true, true, true, true, true, true, true, true, true, true, false, false, false] rfl rfl (by kernel_rfl) (fun _ _ _ h => h) (Or.inl ⟨by rfl, ?_⟩) ?_ ?_
  rotate_left
  · intro w'
    go_simp
    with_reducible rfl
  rotate_left
  · simp only [Act.put, List.setIfInBounds_toArray, List.set_cons_zero, List.set_cons_succ, i64_w, i32_w]
    rfl
  refine pure_ (i := 11) (N := some 17) (v := ?_) (a' := ?_) #[true, true, true, true, true, true, true, true, true, true, true, true, false, false] rfl rfl (by kernel_rfl) (fun _ _ _ h => h) (Or.inl ⟨by rfl, ?_⟩) ?_ ?_
  rotate_left
  · intro w'
    go_simp
    with_reducible rfl
  rotate_left
  · simp only [Act.put, List.setIfInBounds_toArray, List.set_cons_zero, List.set_cons_succ, i64_w, i32_w]
    rfl
  refine pure_ (i := 12) (N := some 4) (v := ?_) (a' := ?_) #[true, true, true, true, true, true, true, true, true, true, true, true, true, false] rfl rfl (by kernel_rfl) (fun _ _ _ h => h) (Or.inl ⟨by rfl, ?_⟩) ?_ ?_
  rotate_left
  · intro w'
    go_simp
    with_reducible rfl
  rotate_left
  · simp only [Act.put, List.setIfInBounds_toArray, List.set_cons_zero, List.set_cons_succ, i64_w, i32_w]
    rfl
  refine pure_ (i := 13) (N := some 5) (v := ?_) (a' := ?_) #[true, true, true, true, true, true, true, true, true, true, true, true, true, true] rfl rfl (by kernel_rfl) (fun _ _ _ h => h) (Or.inl ⟨by rfl, ?_⟩) ?_ ?_
  rotate_left
  · intro w'
    go_simp
    with_reducible rfl
  rotate_left
  · simp only [Act.put, List.setIfInBounds_toArray, List.set_cons_zero, List.set_cons_succ, i64_w, i32_w]
    rfl
  refine done_ (by kernel_rfl) ?_
  have hc0 : wv.cell? ⟨g, 0, none⟩ = some (.string s) := (blk_cell HR.out 0).trans rfl
  have hc1 : wv.cell? ⟨g, 1, none⟩ = some (.int .i64 (q : Int)) := (blk_cell HR.out 1).trans rfl
  have hfz := blk_frozen HR.out 1
  go_wp2_with (first | ((with_reducible refine gate_store (t := 3) (p := 27) rfl ?_); refine store_event (t := 3) (p := 27) (v := .tmp 25) (w1 := (wv.setCell ⟨g, 1, none⟩ (.int .i64 ((s.size : Int))))) ?hg ?ho ?hn ?hr ?_; (case ho => rfl); (case hg => rfl); (case hn => rfl); (case hr => first | (go_simp; done) | (go_simp; rfl)); intro wy hw; have HY := Aside0.mk hw; clear hw))
  first | go_ret | go_ret2
  have hy := HY.out
  subst hy
  exact ⟨rfl, blk_put HR.out 1 _ rfl, HK.out.set 1 _⟩
theorem and2047 (x : Int) : Go.bits .and .i64 x 2047 = x % 2048 := by
  unfold Go.bits
  simp only [BitVec.toNat_and, BitVec.toNat_ofInt]
  have h1 : ((2047 : Int) % ((2 ^ IntKind.i64.bits : Nat) : Int)).toNat = 2 ^ 11 - 1 := by decide
  have h2 : ((2 ^ IntKind.i64.bits : Nat) : Int) = 18446744073709551616 := by decide
  rw [h1, Nat.and_two_pow_sub_one_eq_mod, IntKind.wrap_i64, h2]
  omega
def tld (n : Int) : Int × Int × Int := if n < 0 ∨ n ≥ 8192 ∨ n % 2048 ≥ 1440 then (0, 0, 7) else (n / 2048, n % 2048, 0)
theorem told_f (n : Int) : disc_Told.f n = some (tld n) := by
  unfold disc_Told.f tld
  rw [and2047]
  split
  · rw [if_pos (by omega)]
  · split
    · rw [if_pos (by omega)]
    · split
      · rw [if_pos (by omega)]
      · rw [if_neg (by omega)]
theorem tld_rng (n : Int) : 0 ≤ (tld n).1 ∧ (tld n).1 ≤ 3 ∧ 0 ≤ (tld n).2.1 ∧ (tld n).2.1 < 1440 := by
  unfold tld
  split
  · simp
  · simp only
    omega
/-- Is a change right behind what is there? -/
def fine (out : List It) (k m sf st : Int) : Bool := match out.getLast? with
  | none => m == sf
  | some r => decide (m > r.2.1) && (decide (m < st) && decide (k ≠ r.1))
theorem RC.atL {w : World} {g : Nat} {ad : Addr} {xs : List It} {i : Nat} {k f t : Int} (h : RC w g (some ad) xs) (hx : i < xs.length ∧ ri xs i = (k, f, t)) : w.cell? (ad.add (i * 3)) = some (.int .i64 k) ∧ w.cell? ⟨(ad.add (i * 3)).block, (ad.add (i * 3)).off + 1, none⟩ = some (.int .i64 f) := by
  obtain ⟨a, e, h1, h2, h3⟩ := at_H h.1 i hx.1
  cases e
  rw [hx.2] at h1 h2
  exact ⟨h1, h2⟩
set_option maxHeartbeats 8000000 in
set_option maxRecDepth 100000 in
theorem chg_0 (g : Nat) (s : ByteArray) (q : Nat) (hs : s.size ≤ 1000000000) (hq : q ≤ 1000000000) (n : Int) (h : num s q = some n) (sf st : Int) (hsf : 0 ≤ sf ∧ sf ≤ 40320) (A : Option Addr) (c : Nat) (out : List It) (hlo : out.length ≤ 100000) (k m0 ee : Int) (htl : tld n = (k, m0, ee)) (m : Int) (hm : m = m0 + (sf - sf % 1440)) (ho : out = []) (w : World) (hR : IsRd w g s q) (hC : RC w g A out) : Calls Try.prog 37 #[.pointer (some ⟨g, 0, none⟩), .agg #[.int .i64 sf, .int .i64 st], .slice A out.length c] w fun e w' => match (decide (ee = 0) && fine out k m sf st) with | true => e = .returned (.tuple #[.agg #[.int .i64 k, .int .i64 m, .int .i64 st], .int .i64 0]) ∧ IsRd w' g s (q + 2) ∧ WK w w' g | false => e = .returned (.tuple #[.agg #[.int .i64 0, .int .i64 0, .int .i64 0], .int .i64 7]) ∧ IsRd w' g s q ∧ WK w w' g := by
  have HS := Aside0.mk hs
  have HQB := Aside0.mk hq
  have HQ2 := Aside0.mk (show q + 2 ≤ 1000000000 by have := (num_rng h).2.2; omega)
  have HNM := Aside0.mk h
  have HTL := Aside0.mk (show disc_Told.f n = some (k, m0, ee) by rw [told_f, htl])
  have htr := tld_rng n
  rw [htl] at htr
  dsimp only at htr
  have w1_ : Int.tmod sf 1440 = sf % 1440 := Int.tmod_eq_emod_of_nonneg hsf.1
  have w2_ : wrap64 (sf - sf % 1440) = sf - sf % 1440 := by unfold wrap64; omega
  have w3_ : wrap64 (m0 + (sf - sf % 1440)) = m := by rw [hm]; unfold wrap64; omega
  have HR := Aside0.mk hR
  have HK := Aside0.mk (WK.refl w g)
  have HC := Aside0.mk hC
  subst ho
  obtain ⟨b1, hb1⟩ : ∃ b, (m == sf) = b := ⟨_, rfl⟩
  have hfi : fine [] k m sf st = b1 := hb1
  rw [hfi]
  have hw9 : wrap64 ((0 : Int) - 1) = -1 := by unfold wrap64; omega
  obtain ⟨be, hbe⟩ : ∃ b, decide (ee = 0) = b := ⟨_, rfl⟩
  rw [hbe]
  have e1 : (ee != 0) = !be := by cases be <;> simp_all
  have HE := Aside0.mk hbe
  clear hbe hfi
  clear hs hq h htl htr hR hC hsf hm hlo
  cases be <;> cases b1
  all_goals
    go_enter Try.func37, Try.ntmps37
    go_wp2_with (first | ((with_reducible refine gate_dst (N := 4) rfl ?_); refine box_event ?hg (N := 4) ?hd (cs := #[.int .i64 sf, .int .i64 st]) (t := 62) ?hr ?_; (case hd => rfl); (case hg => rfl); (case hr => first | (go_simp; done) | (go_simp; rfl)); intro g4 hg_ wv hbox hb; have B4 := Aside0.mk hbox; have N4 := Aside0.mk (show g4 ≠ g by have := blk_lt HR.out; omega); replace HR := Aside0.mk (show IsRd wv g s _ from blk_below HR.out hb); replace HC := Aside0.mk (RC.wk HC.out (WK.of_below hb g)); replace HK := Aside0.mk (HK.out.trans (WK.of_below hb g)); have hs0 : wv.cell? ⟨g4, 0, none⟩ = some (.int .i64 sf) := (blk_cell B4.out 0).trans rfl; have hs1 : wv.cell? ⟨g4, 1, none⟩ = some (.int .i64 st) := (blk_cell B4.out 1).trans rfl; have hr1 : wv.cell? ⟨g, 1, none⟩ = some (.int .i64 (q : Int)) := (blk_cell HR.out 1).trans rfl; have hfz := blk_frozen HR.out 1; clear hbox hg_ hb) | ((with_reducible refine gate_dst (N := 6) rfl ?_); refine box_event ?hg (N := 6) ?hd (cs := #[.int .i64 0, .int .i64 0, .int .i64 0]) (t := 48) ?hr ?_; (case hd => rfl); (case hg => rfl); (case hr => first | (go_simp; done) | (go_simp; rfl)); intro g6 hg_ wv hbox hb; have B6 := Aside0.mk hbox; have N6 := Aside0.mk (show g6 ≠ g by have := blk_lt HR.out; omega); have N46 := Aside0.mk (show g4 ≠ g6 by have := blk_lt B4.out; omega); have G6 := Aside0.mk (show w.heap.size ≤ g6 by rw [hg_]; exact HK.out.size); replace B4 := Aside0.mk (blk_below B4.out hb); replace HR := Aside0.mk (show IsRd wv g s _ from blk_below HR.out hb); replace HC := Aside0.mk (RC.wk HC.out (WK.of_below hb g)); replace HK := Aside0.mk (HK.out.trans (WK.of_below hb g)); clear hs0 hs1 hr1 hfz; have hs0 : wv.cell? ⟨g4, 0, none⟩ = some (.int .i64 sf) := (blk_cell B4.out 0).trans rfl; have hs1 : wv.cell? ⟨g4, 1, none⟩ = some (.int .i64 st) := (blk_cell B4.out 1).trans rfl; have hr1 : wv.cell? ⟨g, 1, none⟩ = some (.int .i64 (q : Int)) := (blk_cell HR.out 1).trans rfl; have hfz := blk_frozen HR.out 1; clear hbox hg_ hb) | (go_at_call 36; (with_reducible refine (take_y g s q HS.out HQB.out n HNM.out _ HR.out).mono ?_); rintro e_ wv ⟨rfl, hr, hk⟩; replace HR := Aside0.mk hr; replace HC := Aside0.mk (RC.wk HC.out hk); replace HK := Aside0.mk (HK.out.trans hk); replace B4 := Aside0.mk (WK.blk hk B4.out N4.out); replace B6 := Aside0.mk (WK.blk hk B6.out N6.out); clear hs0 hs1 hr1 hfz; clear hr hk; have hs0 : wv.cell? ⟨g4, 0, none⟩ = some (.int .i64 sf) := (blk_cell B4.out 0).trans rfl; have hs1 : wv.cell? ⟨g4, 1, none⟩ = some (.int .i64 st) := (blk_cell B4.out 1).trans rfl; have hr1 : wv.cell? ⟨g, 1, none⟩ = some (.int .i64 ((q + 2 : Nat) : Int)) := (blk_cell HR.out 1).trans rfl; have hfz := blk_frozen HR.out 1) | (go_at_call 7; (with_reducible refine (disc_Told.calls n k m0 ee _ HTL.out).mono ?_); rintro e_ wv ⟨rfl, hd⟩; have hb := hd.below; replace HR := Aside0.mk (show IsRd wv g s _ from blk_below HR.out hb); replace HC := Aside0.mk (RC.wk HC.out (WK.of_below hb g)); replace HK := Aside0.mk (HK.out.trans (WK.of_below hb g)); replace B4 := Aside0.mk (blk_below B4.out hb); replace B6 := Aside0.mk (blk_below B6.out hb); clear hs0 hs1 hr1 hfz; clear hb hd; have hs0 : wv.cell? ⟨g4, 0, none⟩ = some (.int .i64 sf) := (blk_cell B4.out 0).trans rfl; have hs1 : wv.cell? ⟨g4, 1, none⟩ = some (.int .i64 st) := (blk_cell B4.out 1).trans rfl; have hr1 : wv.cell? ⟨g, 1, none⟩ = some (.int .i64 ((q + 2 : Nat) : Int)) := (blk_cell HR.out 1).trans rfl; have hfz := blk_frozen HR.out 1) | ((with_reducible refine gate_store (t := 3) (p := 82) rfl ?_); refine store_event (t := 3) (p := 82) (v := .tmp 80) (w1 := (wv.setCell ⟨g, 1, none⟩ (.int .i64 (q : Int)))) ?hg ?ho ?hn ?hr ?_; (case ho => rfl); (case hg => rfl); (case hn => rfl); (case hr => first | (go_simp; done) | (go_simp; rfl)); intro wv hw; replace B6 := Aside0.mk (show wv.heap[g6]? = some (.cells #[.int .i64 0, .int .i64 0, .int .i64 0] 48 (0, 0)) by rw [hw]; exact blk_far B6.out N6.out _); replace HR := Aside0.mk (show IsRd wv g s q by rw [hw]; exact blk_put HR.out 1 _ rfl); replace HK := Aside0.mk (show WK w wv g by rw [hw]; exact HK.out.set 1 _); clear hw HC B4; clear hs0 hs1 hr1 hfz) | ((with_reducible refine gate_store (t := 48) (p := 6) rfl ?_); refine wpList_store_row rfl 48 _ _ rfl g6 #[.int .i64 k, .int .i64 m, .int .i64 st] rfl rfl 48 #[.int .i64 0, .int .i64 0, .int .i64 0] B6.out (by kernel_rfl) rfl (by simp [Value.oneCell']) ?_; replace HR := Aside0.mk (show IsRd (wv.setRow g6 #[.int .i64 k, .int .i64 m, .int .i64 st]) g s _ from (setRow_other _ _ _ _ (fun e => N6.out e.symm)).trans HR.out); replace HK := Aside0.mk (K_row HK.out G6.out #[.int .i64 k, .int .i64 m, .int .i64 st]); replace B6 := Aside0.mk (setRow_heap _ _ _ #[.int .i64 k, .int .i64 m, .int .i64 st] _ _ B6.out); generalize wv.setRow g6 #[.int .i64 k, .int .i64 m, .int .i64 st] = wv at HR HK B6 ⊢) | ((with_reducible refine gate_store (t := 48) (p := 6) rfl ?_); refine wpList_store_row rfl 48 _ _ rfl g6 #[.int .i64 0, .int .i64 0, .int .i64 0] rfl rfl 48 #[.int .i64 0, .int .i64 0, .int .i64 0] B6.out (by kernel_rfl) rfl (by simp [Value.oneCell']) ?_; replace HR := Aside0.mk (show IsRd (wv.setRow g6 #[.int .i64 0, .int .i64 0, .int .i64 0]) g s _ from (setRow_other _ _ _ _ (fun e => N6.out e.symm)).trans HR.out); replace HK := Aside0.mk (K_row HK.out G6.out #[.int .i64 0, .int .i64 0, .int .i64 0]); replace B6 := Aside0.mk (setRow_heap _ _ _ #[.int .i64 0, .int .i64 0, .int .i64 0] _ _ B6.out); generalize wv.setRow g6 #[.int .i64 0, .int .i64 0, .int .i64 0] = wv at HR HK B6 ⊢))
    refine bodyPost_ret (results_ct rfl _ _ g6 48 _ (0, 0) _ rfl B6.out Try.underlying48 rfl (by kernel_rfl)) rfl ?_
    exact ⟨rfl, HR.out, HK.out⟩
set_option maxHeartbeats 8000000 in
set_option maxRecDepth 100000 in
theorem chg_1 (g : Nat) (s : ByteArray) (q : Nat) (hs : s.size ≤ 1000000000) (hq : q ≤ 1000000000) (n : Int) (h : num s q = some n) (sf st : Int) (hsf : 0 ≤ sf ∧ sf ≤ 40320) (A : Option Addr) (c : Nat) (out : List It) (hlo : out.length ≤ 100000) (k m0 ee : Int) (htl : tld n = (k, m0, ee)) (m : Int) (hm : m = m0 + (sf - sf % 1440)) (ho : 0 < out.length) (w : World) (hR : IsRd w g s q) (hC : RC w g A out) : Calls Try.prog 37 #[.pointer (some ⟨g, 0, none⟩), .agg #[.int .i64 sf, .int .i64 st], .slice A out.length c] w fun e w' => match (decide (ee = 0) && fine out k m sf st) with | true => e = .returned (.tuple #[.agg #[.int .i64 k, .int .i64 m, .int .i64 st], .int .i64 0]) ∧ IsRd w' g s (q + 2) ∧ WK w w' g | false => e = .returned (.tuple #[.agg #[.int .i64 0, .int .i64 0, .int .i64 0], .int .i64 7]) ∧ IsRd w' g s q ∧ WK w w' g := by
  have HS := Aside0.mk hs
  have HQB := Aside0.mk hq
  have HQ2 := Aside0.mk (show q + 2 ≤ 1000000000 by have := (num_rng h).2.2; omega)
  have HNM := Aside0.mk h
  have HTL := Aside0.mk (show disc_Told.f n = some (k, m0, ee) by rw [told_f, htl])
  have htr := tld_rng n
  rw [htl] at htr
  dsimp only at htr
  have w1_ : Int.tmod sf 1440 = sf % 1440 := Int.tmod_eq_emod_of_nonneg hsf.1
  have w2_ : wrap64 (sf - sf % 1440) = sf - sf % 1440 := by unfold wrap64; omega
  have w3_ : wrap64 (m0 + (sf - sf % 1440)) = m := by rw [hm]; unfold wrap64; omega
  have HR := Aside0.mk hR
  have HK := Aside0.mk (WK.refl w g)
  have HC := Aside0.mk hC
  obtain ⟨ad, rfl⟩ : ∃ ad, A = some ad := by obtain ⟨ad, e, _⟩ := hC.1.2.2 ho; exact ⟨ad, e⟩
  obtain ⟨h_, hh⟩ : ∃ h_, out.length = h_ + 1 := ⟨out.length - 1, by omega⟩
  obtain ⟨⟨rk, rf, rt⟩, hri⟩ : ∃ r, ri out h_ = r := ⟨_, rfl⟩
  have HX := Aside0.mk (show h_ < out.length ∧ ri out h_ = (rk, rf, rt) from ⟨by omega, hri⟩)
  have hla : out.getLast? = some (rk, rf, rt) := by rw [List.getLast?_eq_getElem?, ← hri, show out.length - 1 = h_ by omega]; unfold ri; simp [show h_ < out.length by omega]
  obtain ⟨b1, hb1⟩ : ∃ b, decide (m > rf) = b := ⟨_, rfl⟩
  obtain ⟨b2, hb2⟩ : ∃ b, decide (m < st) = b := ⟨_, rfl⟩
  obtain ⟨b3, hb3⟩ : ∃ b, decide (k ≠ rk) = b := ⟨_, rfl⟩
  have hfi : fine out k m sf st = (b1 && (b2 && b3)) := by unfold fine; rw [hla, ← hb1, ← hb2, ← hb3]
  rw [hfi]
  have hb4 : (k != rk) = b3 := by rw [← hb3]; by_cases e : k = rk <;> simp [e]
  have hb5 : decide (rf < m) = b1 := hb1
  have hw9 : wrap64 ((out.length : Int) - 1) = (h_ : Int) := by unfold wrap64; omega
  have p1 : (0 ≤ (h_ : Int)) = True := eq_true (by omega)
  have p2 : ((h_ : Int) < (out.length : Int)) = True := eq_true (by omega)
  have p3 : ((h_ : Int) ≥ 0) = True := eq_true (by omega)
  obtain ⟨be, hbe⟩ : ∃ b, decide (ee = 0) = b := ⟨_, rfl⟩
  rw [hbe]
  have e1 : (ee != 0) = !be := by cases be <;> simp_all
  have HE := Aside0.mk hbe
  clear hbe hfi hla hri hh hb3
  clear hs hq h htl htr hR hC hsf hm hlo
  cases be <;> cases b1 <;> cases b2 <;> cases b3
  all_goals
    go_enter Try.func37, Try.ntmps37
    go_wp2_with (first | ((with_reducible refine gate_dst (N := 4) rfl ?_); refine box_event ?hg (N := 4) ?hd (cs := #[.int .i64 sf, .int .i64 st]) (t := 62) ?hr ?_; (case hd => rfl); (case hg => rfl); (case hr => first | (go_simp; done) | (go_simp; rfl)); intro g4 hg_ wv hbox hb; have B4 := Aside0.mk hbox; have N4 := Aside0.mk (show g4 ≠ g by have := blk_lt HR.out; omega); replace HR := Aside0.mk (show IsRd wv g s _ from blk_below HR.out hb); replace HC := Aside0.mk (RC.wk HC.out (WK.of_below hb g)); replace HK := Aside0.mk (HK.out.trans (WK.of_below hb g)); have hs0 : wv.cell? ⟨g4, 0, none⟩ = some (.int .i64 sf) := (blk_cell B4.out 0).trans rfl; have hs1 : wv.cell? ⟨g4, 1, none⟩ = some (.int .i64 st) := (blk_cell B4.out 1).trans rfl; have hr1 : wv.cell? ⟨g, 1, none⟩ = some (.int .i64 (q : Int)) := (blk_cell HR.out 1).trans rfl; have hfz := blk_frozen HR.out 1; obtain ⟨hx0, hx1⟩ := RC.atL HC.out HX.out; clear hbox hg_ hb) | ((with_reducible refine gate_dst (N := 6) rfl ?_); refine box_event ?hg (N := 6) ?hd (cs := #[.int .i64 0, .int .i64 0, .int .i64 0]) (t := 48) ?hr ?_; (case hd => rfl); (case hg => rfl); (case hr => first | (go_simp; done) | (go_simp; rfl)); intro g6 hg_ wv hbox hb; have B6 := Aside0.mk hbox; have N6 := Aside0.mk (show g6 ≠ g by have := blk_lt HR.out; omega); have N46 := Aside0.mk (show g4 ≠ g6 by have := blk_lt B4.out; omega); have G6 := Aside0.mk (show w.heap.size ≤ g6 by rw [hg_]; exact HK.out.size); replace B4 := Aside0.mk (blk_below B4.out hb); replace HR := Aside0.mk (show IsRd wv g s _ from blk_below HR.out hb); replace HC := Aside0.mk (RC.wk HC.out (WK.of_below hb g)); replace HK := Aside0.mk (HK.out.trans (WK.of_below hb g)); clear hs0 hs1 hr1 hfz hx0 hx1; have hs0 : wv.cell? ⟨g4, 0, none⟩ = some (.int .i64 sf) := (blk_cell B4.out 0).trans rfl; have hs1 : wv.cell? ⟨g4, 1, none⟩ = some (.int .i64 st) := (blk_cell B4.out 1).trans rfl; have hr1 : wv.cell? ⟨g, 1, none⟩ = some (.int .i64 (q : Int)) := (blk_cell HR.out 1).trans rfl; have hfz := blk_frozen HR.out 1; obtain ⟨hx0, hx1⟩ := RC.atL HC.out HX.out; clear hbox hg_ hb) | (go_at_call 36; (with_reducible refine (take_y g s q HS.out HQB.out n HNM.out _ HR.out).mono ?_); rintro e_ wv ⟨rfl, hr, hk⟩; replace HR := Aside0.mk hr; replace HC := Aside0.mk (RC.wk HC.out hk); replace HK := Aside0.mk (HK.out.trans hk); replace B4 := Aside0.mk (WK.blk hk B4.out N4.out); replace B6 := Aside0.mk (WK.blk hk B6.out N6.out); clear hs0 hs1 hr1 hfz hx0 hx1; clear hr hk; have hs0 : wv.cell? ⟨g4, 0, none⟩ = some (.int .i64 sf) := (blk_cell B4.out 0).trans rfl; have hs1 : wv.cell? ⟨g4, 1, none⟩ = some (.int .i64 st) := (blk_cell B4.out 1).trans rfl; have hr1 : wv.cell? ⟨g, 1, none⟩ = some (.int .i64 ((q + 2 : Nat) : Int)) := (blk_cell HR.out 1).trans rfl; have hfz := blk_frozen HR.out 1; obtain ⟨hx0, hx1⟩ := RC.atL HC.out HX.out) | (go_at_call 7; (with_reducible refine (disc_Told.calls n k m0 ee _ HTL.out).mono ?_); rintro e_ wv ⟨rfl, hd⟩; have hb := hd.below; replace HR := Aside0.mk (show IsRd wv g s _ from blk_below HR.out hb); replace HC := Aside0.mk (RC.wk HC.out (WK.of_below hb g)); replace HK := Aside0.mk (HK.out.trans (WK.of_below hb g)); replace B4 := Aside0.mk (blk_below B4.out hb); replace B6 := Aside0.mk (blk_below B6.out hb); clear hs0 hs1 hr1 hfz hx0 hx1; clear hb hd; have hs0 : wv.cell? ⟨g4, 0, none⟩ = some (.int .i64 sf) := (blk_cell B4.out 0).trans rfl; have hs1 : wv.cell? ⟨g4, 1, none⟩ = some (.int .i64 st) := (blk_cell B4.out 1).trans rfl; have hr1 : wv.cell? ⟨g, 1, none⟩ = some (.int .i64 ((q + 2 : Nat) : Int)) := (blk_cell HR.out 1).trans rfl; have hfz := blk_frozen HR.out 1; obtain ⟨hx0, hx1⟩ := RC.atL HC.out HX.out) | ((with_reducible refine gate_store (t := 3) (p := 82) rfl ?_); refine store_event (t := 3) (p := 82) (v := .tmp 80) (w1 := (wv.setCell ⟨g, 1, none⟩ (.int .i64 (q : Int)))) ?hg ?ho ?hn ?hr ?_; (case ho => rfl); (case hg => rfl); (case hn => rfl); (case hr => first | (go_simp; done) | (go_simp; rfl)); intro wv hw; replace B6 := Aside0.mk (show wv.heap[g6]? = some (.cells #[.int .i64 0, .int .i64 0, .int .i64 0] 48 (0, 0)) by rw [hw]; exact blk_far B6.out N6.out _); replace HR := Aside0.mk (show IsRd wv g s q by rw [hw]; exact blk_put HR.out 1 _ rfl); replace HK := Aside0.mk (show WK w wv g by rw [hw]; exact HK.out.set 1 _); clear hw HC B4; clear hs0 hs1 hr1 hfz hx0 hx1) | ((with_reducible refine gate_store (t := 48) (p := 6) rfl ?_); refine wpList_store_row rfl 48 _ _ rfl g6 #[.int .i64 k, .int .i64 m, .int .i64 st] rfl rfl 48 #[.int .i64 0, .int .i64 0, .int .i64 0] B6.out (by kernel_rfl) rfl (by simp [Value.oneCell']) ?_; replace HR := Aside0.mk (show IsRd (wv.setRow g6 #[.int .i64 k, .int .i64 m, .int .i64 st]) g s _ from (setRow_other _ _ _ _ (fun e => N6.out e.symm)).trans HR.out); replace HK := Aside0.mk (K_row HK.out G6.out #[.int .i64 k, .int .i64 m, .int .i64 st]); replace B6 := Aside0.mk (setRow_heap _ _ _ #[.int .i64 k, .int .i64 m, .int .i64 st] _ _ B6.out); generalize wv.setRow g6 #[.int .i64 k, .int .i64 m, .int .i64 st] = wv at HR HK B6 ⊢) | ((with_reducible refine gate_store (t := 48) (p := 6) rfl ?_); refine wpList_store_row rfl 48 _ _ rfl g6 #[.int .i64 0, .int .i64 0, .int .i64 0] rfl rfl 48 #[.int .i64 0, .int .i64 0, .int .i64 0] B6.out (by kernel_rfl) rfl (by simp [Value.oneCell']) ?_; replace HR := Aside0.mk (show IsRd (wv.setRow g6 #[.int .i64 0, .int .i64 0, .int .i64 0]) g s _ from (setRow_other _ _ _ _ (fun e => N6.out e.symm)).trans HR.out); replace HK := Aside0.mk (K_row HK.out G6.out #[.int .i64 0, .int .i64 0, .int .i64 0]); replace B6 := Aside0.mk (setRow_heap _ _ _ #[.int .i64 0, .int .i64 0, .int .i64 0] _ _ B6.out); generalize wv.setRow g6 #[.int .i64 0, .int .i64 0, .int .i64 0] = wv at HR HK B6 ⊢))
    refine bodyPost_ret (results_ct rfl _ _ g6 48 _ (0, 0) _ rfl B6.out Try.underlying48 rfl (by kernel_rfl)) rfl ?_
    exact ⟨rfl, HR.out, HK.out⟩
end Go.Proofs.Ytjpnfhnmcgejhaa.Dd1
