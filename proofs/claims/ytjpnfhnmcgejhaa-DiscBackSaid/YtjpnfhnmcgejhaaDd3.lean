/- The reader of numbers: begin. -/
import Derived.Test.YtjpnfhnmcgejhaaDd2
namespace Go.Proofs.Ytjpnfhnmcgejhaa.Dd3
open Go.RowKit Go.Proofs.YtjpnfhnmcgejhaaW.PrintWords Go.Proofs.YtjpnfhnmcgejhaaW.PrintLast Go.Proofs.YtjpnfhnmcgejhaaW.PrintMore Go.Proofs.Ytjpnfhnmcgejhaa.Dc1 Go.Proofs.Ytjpnfhnmcgejhaa.Dc2 Go.Proofs.Ytjpnfhnmcgejhaa.Dc3 Go.Proofs.Ytjpnfhnmcgejhaa.Dc4 Go.Proofs.Ytjpnfhnmcgejhaa.Dd1 Go.Proofs.Ytjpnfhnmcgejhaa.Dd2
attribute [local go_sem] max2_int min2_int max_two min_two max_three min_three max_four min_four
set_option linter.unusedVariables false
set_option linter.unusedSimpArgs false
def beginP (s : ByteArray) : Option (Int × Int) := if 2 ≤ s.size ∧ bt s 0 = 72 ∧ bt s 1 = 68 then (num s 2).bind fun f => (num s 4).bind fun u => if f < u ∧ u ≤ 40320 then some (f, u) else none else none
def beginE (s : ByteArray) : Int × Int := if s.size ≤ 0 then (0, 8) else if bt s 0 ≠ 72 then (0, 7) else if s.size ≤ 1 then (1, 8) else if bt s 1 ≠ 68 then (1, 7) else match num s 2 with
  | none => ((s.size : Int), 8)
  | some f => match num s 4 with
    | none => ((s.size : Int), 8)
    | some u => if u ≤ f then (2, 3) else (4, 4)
theorem beginE_ok (s : ByteArray) : (beginE s).2 ≠ 0 := by
  unfold beginE
  repeat' split
  all_goals first | decide | (show (8 : Int) ≠ 0; decide) | (show (7 : Int) ≠ 0; decide)
def PostB (g : Nat) (s : ByteArray) (w : World) (R : Option (Int × Int)) (E : Int × Int) (e : Ending) (w' : World) : Prop := (∀ f u, R = some (f, u) → e = .returned (.tuple #[.agg #[.int .i64 f, .int .i64 u], .int .i64 0, .int .i64 0]) ∧ IsRd w' g s 6 ∧ WK w w' g) ∧ (R = none → ∃ (q2 : Nat), e = .returned (.tuple #[.agg #[.int .i64 0, .int .i64 0], .int .i64 E.1, .int .i64 E.2]) ∧ E.2 ≠ 0 ∧ q2 ≤ 1000000000 ∧ IsRd w' g s q2 ∧ WK w w' g)
theorem PostB.bad {g : Nat} {s : ByteArray} {w w' : World} {at_ err : Int} {q2 : Nat} (hE : beginE s = (at_, err)) (hq : q2 ≤ 1000000000) (h1 : IsRd w' g s q2) (h2 : WK w w' g) : PostB g s w none (beginE s) (.returned (.tuple #[.agg #[.int .i64 0, .int .i64 0], .int .i64 at_, .int .i64 err])) w' := by
  have he := beginE_ok s
  rw [hE] at he ⊢
  exact ⟨fun f u h => (by cases h), fun _ => ⟨q2, rfl, he, hq, h1, h2⟩⟩
theorem bt_hd0 : bt (⟨#[72, 68]⟩ : ByteArray) 0 = 72 := by decide
theorem bt_hd1 : bt (⟨#[72, 68]⟩ : ByteArray) 1 = 68 := by decide
set_option maxHeartbeats 8000000 in
set_option maxRecDepth 100000 in
theorem begin_ (g : Nat) (s : ByteArray) (hs : s.size ≤ 1000000000) (w : World) (hR : IsRd w g s 0) : Calls Try.prog 27 #[.pointer (some ⟨g, 0, none⟩)] w fun e w' => PostB g s w (beginP s) (beginE s) e w' := by
  have HS := Aside0.mk hs
  have HR := Aside0.mk hR
  have HK := Aside0.mk (WK.refl w g)
  clear hs hR
  go_enter Try.func27, Try.ntmps27
  go_wp2_with (first | ((with_reducible refine gate_dst (N := 2) rfl ?_); refine box_event ?hg (N := 2) ?hd (cs := #[.int .i64 0, .int .i64 0]) (t := 62) ?hr ?_; (case hd => rfl); (case hg => rfl); (case hr => first | (go_simp; done) | (go_simp; rfl)); intro g2 hg_ wv hbox hb; have B2 := Aside0.mk hbox; have N2 := Aside0.mk (show g2 ≠ g by have := blk_lt HR.out; omega); have G2 := Aside0.mk (show w.heap.size ≤ g2 by rw [hg_]; exact HK.out.size); replace HR := Aside0.mk (show IsRd wv g s 0 from blk_below HR.out hb); replace HK := Aside0.mk (HK.out.trans (WK.of_below hb g)); clear hbox hg_ hb))
  go_loopg [10] 2 (fun kq v10 w' => ∃ i : Nat, v10 = .int .i64 (i : Int) ∧ Aside0 (i ≤ 2) ∧ Aside0 (2 - i ≤ kq) ∧ Aside0 (∀ j < i, j < s.size ∧ bt s (j : Int) = bt (⟨#[72, 68]⟩ : ByteArray) (j : Int)) ∧ Aside0 (IsRd w' g s 0) ∧ Aside0 (WK w w' g) ∧ Aside0 (w'.heap[g2]? = some (.cells #[.int .i64 0, .int .i64 0] 62 (0, 0))))
  case atStart => exact ⟨0, rfl, ⟨by omega⟩, ⟨by omega⟩, ⟨fun j hj => absurd hj (Nat.not_lt_zero j)⟩, HR, HK, B2⟩
  case round =>
    clear HR HK B2
    obtain ⟨i, rfl, HI, HKQ, HP, HR, HK, B2⟩ := hrel
    obtain ⟨wv, hwv⟩ : ∃ wv, wv = wr := ⟨_, rfl⟩
    rw [← hwv] at HR HK B2 ⊢
    clear hwv
    have hc0 : wv.cell? ⟨g, 0, none⟩ = some (.string s) := (blk_cell HR.out 0).trans rfl
    by_cases ci : i < 2
    · have c1 : ((i : Int) < 2) = True := eq_true (by omega)
      have HIN := Aside0.mk ci
      by_cases cs : s.size ≤ i
      · have c2 : ((i : Int) ≥ (s.size : Int)) = True := eq_true (by omega)
        have c3 : ((s.size : Int) ≤ (i : Int)) = True := eq_true (by omega)
        have c4 : (s.size ≤ i) = True := eq_true cs
        have HN := Aside0.mk (show beginP s = none by unfold beginP; rw [if_neg (by omega)])
        have HEB := Aside0.mk (show beginE s = ((i : Int), 8) by
          have hp := HP.out
          rcases (show i = 0 ∨ i = 1 by omega) with rfl | rfl
          · unfold beginE
            rw [if_pos cs]
            rfl
          · have h0 := hp 0 (by omega)
            have h1 : bt s 0 = 72 := h0.2.trans bt_hd0
            unfold beginE
            rw [if_neg (by omega), if_neg (by rw [h1]; decide), if_pos cs]
            rfl)
        clear cs ci
        go_wp2_with (first | ((with_reducible refine gate_store (t := 62) (p := 2) rfl ?_); refine wpList_store_row rfl 62 _ _ rfl g2 #[.int .i64 0, .int .i64 0] rfl rfl 62 #[.int .i64 0, .int .i64 0] B2.out (by kernel_rfl) rfl (by simp [Value.oneCell']) ?_; replace HR := Aside0.mk (show IsRd (wv.setRow g2 #[.int .i64 0, .int .i64 0]) g s _ from (setRow_other _ _ _ _ (fun e => N2.out e.symm)).trans HR.out); replace HK := Aside0.mk (K_row HK.out G2.out #[.int .i64 0, .int .i64 0]); replace B2 := Aside0.mk (setRow_heap _ _ _ #[.int .i64 0, .int .i64 0] _ _ B2.out); generalize wv.setRow g2 #[.int .i64 0, .int .i64 0] = wv at HR HK B2 ⊢))
        refine bodyPost_ret (results_ctt rfl _ _ g2 62 _ (0, 0) _ rfl B2.out Try.underlying62 rfl (by kernel_rfl)) rfl ?_
        rw [HN.out]
        exact PostB.bad HEB.out (by first | exact HS.out | decide) HR.out HK.out
      have c2 : ((i : Int) ≥ (s.size : Int)) = False := eq_false (by omega)
      have c3 : ((s.size : Int) ≤ (i : Int)) = False := eq_false (by omega)
      have c4 : (s.size ≤ i) = False := eq_false cs
      have p1 : (0 ≤ (i : Int)) = True := eq_true (by omega)
      have p2 : ((i : Int) < (s.size : Int)) = True := eq_true (by omega)
      have p3 : (i < s.size) = True := eq_true (by omega)
      have p4 : (i < 2) = True := eq_true ci
      have HJ := Aside0.mk (show i < s.size by omega)
      have hsz : i < s.size := by omega
      have hsh : i < ((⟨#[72, 68]⟩ : ByteArray)).size := ci
      obtain ⟨b1, hb1⟩ : ∃ b, (((s[i]'hsz).toNat : Int) != ((((⟨#[72, 68]⟩ : ByteArray))[i]'hsh).toNat : Int)) = b := ⟨_, rfl⟩
      have HB1 := Aside0.mk (show (bt s (i : Int) != bt (⟨#[72, 68]⟩ : ByteArray) (i : Int)) = b1 by
        rw [← hb1, show bt s (i : Int) = ((s[i]'hsz).toNat : Int) by unfold bt; simp [hsz], show bt (⟨#[72, 68]⟩ : ByteArray) (i : Int) = ((((⟨#[72, 68]⟩ : ByteArray))[i]'hsh).toNat : Int) by unfold bt; rw [dif_pos (show ((i : Int)).toNat < ((⟨#[72, 68]⟩ : ByteArray)).size by simpa using hsh)]; rfl])
      have HW2 := Aside0.mk (show wrap64 ((i : Int) + 1) = ((i + 1 : Nat) : Int) by unfold wrap64; omega)
      clear ci cs
      go_wp2
      clear hc0
      refine start_ (n := 10) (S := fun w' => w'.cell? ⟨g, 0, none⟩ = some (.string s)) (ds := []) #[false, false, false, false, false, false, false, false, false, false] (by kernel_rfl) rfl rfl ((blk_cell HR.out 0).trans rfl) (fun hHeld => ?_)
      replace HR := Aside0.mk (show IsRd wv.drew g s _ from HR.out)
      replace HK := Aside0.mk (show WK w wv.drew g from ⟨HK.out.os, HK.out.tape, HK.out.output, HK.out.size, HK.out.block⟩)
      replace B2 := Aside0.mk (show wv.drew.heap[g2]? = _ from B2.out)
      generalize wv.drew = wv at HR HK B2 hHeld ⊢
      refine pure_ (i := 0) (N := some 24) (v := ?_) (a' := ?_) #[true, false, false, false, false, false, false, false, false, false] rfl rfl (by kernel_rfl) (fun _ _ _ h => h) (Or.inl ⟨by rfl, ?_⟩) ?_ ?_
      rotate_left
      · intro w'
        go_simp
        with_reducible rfl
      rotate_left
      · simp only [Act.put, List.setIfInBounds_toArray, List.set_cons_zero, List.set_cons_succ, i64_w, i32_w]
        rfl
      refine pure_ (i := 1) (N := some 25) (v := ?_) (a' := ?_) #[true, true, false, false, false, false, false, false, false, false] rfl rfl (by kernel_rfl) (fun _ _ _ h => h) (Or.inl ⟨by rfl, ?_⟩) ?_ ?_
      rotate_left
      · intro w'
        go_simp
        with_reducible rfl
      rotate_left
      · simp only [Act.put, List.setIfInBounds_toArray, List.set_cons_zero, List.set_cons_succ, i64_w, i32_w]
        rfl
      refine pure_ (i := 2) (N := some 26) (v := ?_) (a' := ?_) #[true, true, true, false, false, false, false, false, false, false] rfl rfl (by kernel_rfl) (fun _ _ _ h => h) (Or.inl ⟨by rfl, ?_⟩) ?_ ?_
      rotate_left
      · intro w'
        go_simp
        with_reducible rfl
      rotate_left
      · simp only [Act.put, List.setIfInBounds_toArray, List.set_cons_zero, List.set_cons_succ, i64_w, i32_w]
        rfl
      refine pure_ (i := 4) (N := some 28) (v := ?_) (a' := ?_) #[true, true, true, false, true, false, false, false, false, false] rfl rfl (by kernel_rfl) (fun _ _ _ h => h) (Or.inl ⟨by rfl, ?_⟩) ?_ ?_
      rotate_left
      · intro w'
        go_simp
        with_reducible rfl
      rotate_left
      · simp only [Act.put, List.setIfInBounds_toArray, List.set_cons_zero, List.set_cons_succ, i64_w, i32_w]
        rfl
      refine pure_ (i := 6) (N := some 30) (v := ?_) (a' := ?_) #[true, true, true, false, true, false, true, false, false, false] rfl rfl (by kernel_rfl) (fun _ _ _ h => h) (Or.inl ⟨by rfl, ?_⟩) ?_ ?_
      rotate_left
      · intro w'
        go_simp
        with_reducible rfl
      rotate_left
      · simp only [Act.put, List.setIfInBounds_toArray, List.set_cons_zero, List.set_cons_succ, i64_w, i32_w]
        rfl
      refine take_ (i := 3) (N := some 27) (v := ?_) (a' := ?_) #[true, true, true, true, true, false, true, false, false, false] rfl rfl (by kernel_rfl) (fun _ _ _ h => h) (Or.inl ⟨by rfl, ?_⟩) hHeld ?_ ?_
      rotate_left
      · intro w' s0
        go_simp
        with_reducible rfl
      rotate_left
      · simp only [Act.put, List.setIfInBounds_toArray, List.set_cons_zero, List.set_cons_succ, i64_w, i32_w]
        rfl
      refine take_ (i := 5) (N := some 29) (v := ?_) (a' := ?_) #[true, true, true, true, true, true, true, false, false, false] rfl rfl (by kernel_rfl) (fun _ _ _ h => h) (Or.inl ⟨by rfl, ?_⟩) hHeld ?_ ?_
      rotate_left
      · intro w' s0
        go_simp
        with_reducible rfl
      rotate_left
      · simp only [Act.put, List.setIfInBounds_toArray, List.set_cons_zero, List.set_cons_succ, i64_w, i32_w]
        rfl
      refine take_ (i := 7) (N := some 31) (v := ?_) (a' := ?_) #[true, true, true, true, true, true, true, true, false, false] rfl rfl (by kernel_rfl) (fun _ _ _ h => h) (Or.inl ⟨by rfl, ?_⟩) hHeld ?_ ?_
      rotate_left
      · intro w' s0
        go_simp
        with_reducible rfl
      rotate_left
      · simp only [Act.put, List.setIfInBounds_toArray, List.set_cons_zero, List.set_cons_succ, i64_w, i32_w]
        rfl
      refine pure_ (i := 8) (N := some 32) (v := ?_) (a' := ?_) #[true, true, true, true, true, true, true, true, true, false] rfl rfl (by kernel_rfl) (fun _ _ _ h => h) (Or.inl ⟨by rfl, ?_⟩) ?_ ?_
      rotate_left
      · intro w'
        go_simp
        with_reducible rfl
      rotate_left
      · simp only [Act.put, List.setIfInBounds_toArray, List.set_cons_zero, List.set_cons_succ, i64_w, i32_w]
        rfl
      refine pure_ (i := 9) (N := some 23) (v := ?_) (a' := ?_) #[true, true, true, true, true, true, true, true, true, true] rfl rfl (by kernel_rfl) (fun _ _ _ h => h) (Or.inl ⟨by rfl, ?_⟩) ?_ ?_
      rotate_left
      · intro w'
        go_simp
        with_reducible rfl
      rotate_left
      · simp only [Act.put, List.setIfInBounds_toArray, List.set_cons_zero, List.set_cons_succ, i64_w, i32_w]
        rfl
      refine done_ (by kernel_rfl) ?_
      cases b1 with
      | true =>
        have HN := Aside0.mk (show beginP s = none by
          unfold beginP
          rw [if_neg]
          intro h
          have hb := bne_iff_ne.mp HB1.out
          have hi := HIN.out
          rcases (show i = 0 ∨ i = 1 by omega) with rfl | rfl
          · exact hb (h.2.1.trans bt_hd0.symm)
          · exact hb (h.2.2.trans bt_hd1.symm))
        have HEB := Aside0.mk (show beginE s = ((i : Int), 7) by
          have hp := HP.out
          have hb := bne_iff_ne.mp HB1.out
          have hi := HIN.out
          have hj := HJ.out
          rcases (show i = 0 ∨ i = 1 by omega) with rfl | rfl
          · unfold beginE
            rw [if_neg (by omega), if_pos (fun h => hb (h.trans bt_hd0.symm))]
            rfl
          · have h0 := hp 0 (by omega)
            have h1 : bt s 0 = 72 := h0.2.trans bt_hd0
            unfold beginE
            rw [if_neg (by omega), if_neg (by rw [h1]; decide), if_neg (by omega), if_pos (fun h => hb (h.trans bt_hd1.symm))]
            rfl)
        go_wp2_with (first | ((with_reducible refine gate_store (t := 62) (p := 2) rfl ?_); refine wpList_store_row rfl 62 _ _ rfl g2 #[.int .i64 0, .int .i64 0] rfl rfl 62 #[.int .i64 0, .int .i64 0] B2.out (by kernel_rfl) rfl (by simp [Value.oneCell']) ?_; replace HR := Aside0.mk (show IsRd (wv.setRow g2 #[.int .i64 0, .int .i64 0]) g s _ from (setRow_other _ _ _ _ (fun e => N2.out e.symm)).trans HR.out); replace HK := Aside0.mk (K_row HK.out G2.out #[.int .i64 0, .int .i64 0]); replace B2 := Aside0.mk (setRow_heap _ _ _ #[.int .i64 0, .int .i64 0] _ _ B2.out); generalize wv.setRow g2 #[.int .i64 0, .int .i64 0] = wv at HR HK B2 ⊢))
        refine bodyPost_ret (results_ctt rfl _ _ g2 62 _ (0, 0) _ rfl B2.out Try.underlying62 rfl (by kernel_rfl)) rfl ?_
        rw [HN.out]
        exact PostB.bad HEB.out (by first | exact HS.out | decide) HR.out HK.out
      | false =>
        (try go_wp2)
        go_roundg (2 - (i + 1))
        case measure => have := HKQ.out; have := HIN.out; omega
        case rel => exact ⟨i + 1, by first | rfl | rw [HW2.out], ⟨by have := HIN.out; omega⟩, ⟨by omega⟩, ⟨fun j hj => by
          rcases (show j < i ∨ j = i by omega) with h | rfl
          · exact HP.out j h
          · exact ⟨HJ.out, bne_eq_false_iff_eq.mp HB1.out⟩⟩, HR, HK, B2⟩
    · obtain rfl : i = 2 := by have := HI.out; omega
      have hm0 := HP.out 0 (by omega)
      have hm1 := HP.out 1 (by omega)
      have hmk : 2 ≤ s.size ∧ bt s 0 = 72 ∧ bt s 1 = 68 := ⟨by omega, hm0.2.trans bt_hd0, hm1.2.trans bt_hd1⟩
      have hbp : beginP s = (num s 2).bind fun f => (num s 4).bind fun u => if f < u ∧ u ≤ 40320 then some (f, u) else none := by
        unfold beginP
        rw [if_pos hmk]
      have hr1 : wv.cell? ⟨g, 1, none⟩ = some (.int .i64 ((0 : Nat) : Int)) := (blk_cell HR.out 1).trans rfl
      have hfz := blk_frozen HR.out 1
      have c1 : (((2 : Nat) : Int) < 2) = False := eq_false (by omega)
      have HBP := Aside0.mk hbp
      have HBE := Aside0.mk (show beginE s = (match num s 2 with
        | none => ((s.size : Int), 8)
        | some f => match num s 4 with
          | none => ((s.size : Int), 8)
          | some u => if u ≤ f then (2, 3) else (4, 4)) by
        unfold beginE
        rw [if_neg (by omega), if_neg (by rw [hmk.2.1]; decide), if_neg (by omega), if_neg (by rw [hmk.2.2]; decide)])
      clear hc0 ci hm0 hm1 hmk hbp
      cases h2 : num s 2 with
      | none =>
        have H2 := Aside0.mk h2
        have HN := Aside0.mk (show beginP s = none by rw [HBP.out, h2]; rfl)
        have HEB := Aside0.mk (show beginE s = ((s.size : Int), 8) by rw [HBE.out, h2])
        have HE := Aside0.mk (show num s s.size = none by unfold num; rw [if_neg (by omega)])
        clear h2
        go_wp2_with (first | ((with_reducible refine gate_store (t := 3) (p := 38) rfl ?_); refine store_event (t := 3) (p := 38) (v := .const (.int .i64 2)) (w1 := (wv.setCell ⟨g, 1, none⟩ (.int .i64 ((2 : Nat) : Int)))) ?hg ?ho ?hn ?hr ?_; (case ho => rfl); (case hg => rfl); (case hn => rfl); (case hr => first | (go_simp; done) | (go_simp; rfl)); intro wv hw; replace B2 := Aside0.mk (show wv.heap[g2]? = some (.cells #[.int .i64 0, .int .i64 0] 62 (0, 0)) by rw [hw]; exact blk_far B2.out N2.out _); replace HR := Aside0.mk (show IsRd wv g s 2 by rw [hw]; exact blk_put HR.out 1 _ rfl); replace HK := Aside0.mk (show WK w wv g by rw [hw]; exact HK.out.set 1 _); clear hw hr1 hfz) | (go_at_call 36; (with_reducible refine (take_n g s 2 HS.out (by decide) H2.out _ HR.out).mono ?_); rintro e_ wv ⟨rfl, hr, hk⟩; replace HR := Aside0.mk hr; replace HK := Aside0.mk (HK.out.trans hk); replace B2 := Aside0.mk (WK.blk hk B2.out N2.out); clear hr hk) | (go_at_call 36; (with_reducible refine (take_n g s s.size HS.out HS.out HE.out _ HR.out).mono ?_); rintro e_ wv ⟨rfl, hr, hk⟩; replace HR := Aside0.mk hr; replace HK := Aside0.mk (HK.out.trans hk); replace B2 := Aside0.mk (WK.blk hk B2.out N2.out); clear hr hk))
        refine start_ (n := 9) (S := fun w' => w'.cell? ⟨g, 0, none⟩ = some (.string s)) (ds := []) #[false, false, false, false, false, false, false, false, false] (by kernel_rfl) rfl rfl ((blk_cell HR.out 0).trans rfl) (fun hHeld => ?_)
        replace HR := Aside0.mk (show IsRd wv.drew g s _ from HR.out)
        replace HK := Aside0.mk (show WK w wv.drew g from ⟨HK.out.os, HK.out.tape, HK.out.output, HK.out.size, HK.out.block⟩)
        replace B2 := Aside0.mk (show wv.drew.heap[g2]? = _ from B2.out)
        generalize wv.drew = wv at HR HK B2 hHeld ⊢
        refine pure_ (i := 0) (N := some 52) (v := ?_) (a' := ?_) #[true, false, false, false, false, false, false, false, false] rfl rfl (by kernel_rfl) (fun _ _ _ h => h) (Or.inl ⟨by rfl, ?_⟩) ?_ ?_
        rotate_left
        · intro w'
          go_simp
          with_reducible rfl
        rotate_left
        · simp only [Act.put, List.setIfInBounds_toArray, List.set_cons_zero, List.set_cons_succ, i64_w, i32_w]
          rfl
        refine pure_ (i := 1) (N := some 53) (v := ?_) (a' := ?_) #[true, true, false, false, false, false, false, false, false] rfl rfl (by kernel_rfl) (fun _ _ _ h => h) (Or.inl ⟨by rfl, ?_⟩) ?_ ?_
        rotate_left
        · intro w'
          go_simp
          with_reducible rfl
        rotate_left
        · simp only [Act.put, List.setIfInBounds_toArray, List.set_cons_zero, List.set_cons_succ, i64_w, i32_w]
          rfl
        refine pure_ (i := 2) (N := some 54) (v := ?_) (a' := ?_) #[true, true, true, false, false, false, false, false, false] rfl rfl (by kernel_rfl) (fun _ _ _ h => h) (Or.inl ⟨by rfl, ?_⟩) ?_ ?_
        rotate_left
        · intro w'
          go_simp
          with_reducible rfl
        rotate_left
        · simp only [Act.put, List.setIfInBounds_toArray, List.set_cons_zero, List.set_cons_succ, i64_w, i32_w]
          rfl
        refine pure_ (i := 3) (N := some 55) (v := ?_) (a' := ?_) #[true, true, true, true, false, false, false, false, false] rfl rfl (by kernel_rfl) (fun _ _ _ h => h) (Or.inl ⟨by rfl, ?_⟩) ?_ ?_
        rotate_left
        · intro w'
          go_simp
          with_reducible rfl
        rotate_left
        · simp only [Act.put, List.setIfInBounds_toArray, List.set_cons_zero, List.set_cons_succ, i64_w, i32_w]
          rfl
        refine take_ (i := 4) (N := some 56) (v := ?_) (a' := ?_) #[true, true, true, true, true, false, false, false, false] rfl rfl (by kernel_rfl) (fun _ _ _ h => h) (Or.inl ⟨by rfl, ?_⟩) hHeld ?_ ?_
        rotate_left
        · intro w' s0
          go_simp
          with_reducible rfl
        rotate_left
        · simp only [Act.put, List.setIfInBounds_toArray, List.set_cons_zero, List.set_cons_succ, i64_w, i32_w]
          rfl
        refine pure_ (i := 5) (N := some 57) (v := ?_) (a' := ?_) #[true, true, true, true, true, true, false, false, false] rfl rfl (by kernel_rfl) (fun _ _ _ h => h) (Or.inl ⟨by rfl, ?_⟩) ?_ ?_
        rotate_left
        · intro w'
          go_simp
          with_reducible rfl
        rotate_left
        · simp only [Act.put, List.setIfInBounds_toArray, List.set_cons_zero, List.set_cons_succ, i64_w, i32_w]
          rfl
        refine one_ (i := 6) (N := none) #[true, true, true, true, true, true, true, false, false] rfl rfl (by kernel_rfl) (by decide) (fun K hK => ?_)
        rw [if_pos (by rfl)]
        refine wp_store_row 62 _ _ rfl g2 #[.int .i64 0, .int .i64 0] rfl rfl 62 #[.int .i64 0, .int .i64 0] B2.out (by kernel_rfl) rfl (by first | kernel_rfl | (simp [Value.oneCell']; done) | decide) ?_
        refine hK.out _ _ ((blk_cell ((setRow_other _ _ _ _ (fun e => N2.out e.symm)).trans HR.out) 0).trans rfl) (fun hHeld => ?_)
        clear hK K
        refine pure_ (i := 7) (N := some 3) (v := ?_) (a' := ?_) #[true, true, true, true, true, true, true, true, false] rfl rfl (by kernel_rfl) (fun _ _ _ h => h) (Or.inl ⟨by rfl, ?_⟩) ?_ ?_
        rotate_left
        · intro w'
          go_simp
          with_reducible rfl
        rotate_left
        · simp only [Act.put, List.setIfInBounds_toArray, List.set_cons_zero, List.set_cons_succ, i64_w, i32_w]
          rfl
        refine pure_ (i := 8) (N := some 4) (v := ?_) (a' := ?_) #[true, true, true, true, true, true, true, true, true] rfl rfl (by kernel_rfl) (fun _ _ _ h => h) (Or.inl ⟨by rfl, ?_⟩) ?_ ?_
        rotate_left
        · intro w'
          go_simp
          with_reducible rfl
        rotate_left
        · simp only [Act.put, List.setIfInBounds_toArray, List.set_cons_zero, List.set_cons_succ, i64_w, i32_w]
          rfl
        refine done_ (by kernel_rfl) ?_
        (try go_wp2)
        refine bodyPost_ret (results_ctt rfl _ _ g2 62 _ (0, 0) _ rfl (setRow_heap _ _ _ #[.int .i64 0, .int .i64 0] _ _ B2.out) Try.underlying62 rfl (by kernel_rfl)) rfl ?_
        rw [HN.out]
        exact PostB.bad HEB.out HS.out ((setRow_other _ _ _ _ (fun e => N2.out e.symm)).trans HR.out) (K_row HK.out G2.out _)
      | some f =>
        have H2 := Aside0.mk h2
        cases h4 : num s 4 with
        | none =>
          have H4 := Aside0.mk h4
          have HN := Aside0.mk (show beginP s = none by rw [HBP.out, h2, Option.bind_some, h4]; rfl)
          have HEB := Aside0.mk (show beginE s = ((s.size : Int), 8) by rw [HBE.out, h2, h4])
          clear h2 h4
          go_wp2_with (first | ((with_reducible refine gate_store (t := 3) (p := 38) rfl ?_); refine store_event (t := 3) (p := 38) (v := .const (.int .i64 2)) (w1 := (wv.setCell ⟨g, 1, none⟩ (.int .i64 ((2 : Nat) : Int)))) ?hg ?ho ?hn ?hr ?_; (case ho => rfl); (case hg => rfl); (case hn => rfl); (case hr => first | (go_simp; done) | (go_simp; rfl)); intro wv hw; replace B2 := Aside0.mk (show wv.heap[g2]? = some (.cells #[.int .i64 0, .int .i64 0] 62 (0, 0)) by rw [hw]; exact blk_far B2.out N2.out _); replace HR := Aside0.mk (show IsRd wv g s 2 by rw [hw]; exact blk_put HR.out 1 _ rfl); replace HK := Aside0.mk (show WK w wv g by rw [hw]; exact HK.out.set 1 _); clear hw hr1 hfz) | (go_at_call 36; (with_reducible refine (take_y g s 2 HS.out (by decide) f H2.out _ HR.out).mono ?_); rintro e_ wv ⟨rfl, hr, hk⟩; replace HR := Aside0.mk hr; replace HK := Aside0.mk (HK.out.trans hk); replace B2 := Aside0.mk (WK.blk hk B2.out N2.out); clear hr hk) | (go_at_call 36; (with_reducible refine (take_n g s 4 HS.out (by decide) H4.out _ HR.out).mono ?_); rintro e_ wv ⟨rfl, hr, hk⟩; replace HR := Aside0.mk hr; replace HK := Aside0.mk (HK.out.trans hk); replace B2 := Aside0.mk (WK.blk hk B2.out N2.out); clear hr hk))
          refine start_ (n := 9) (S := fun w' => w'.cell? ⟨g, 0, none⟩ = some (.string s)) (ds := []) #[false, false, false, false, false, false, false, false, false] (by kernel_rfl) rfl rfl ((blk_cell HR.out 0).trans rfl) (fun hHeld => ?_)
          replace HR := Aside0.mk (show IsRd wv.drew g s _ from HR.out)
          replace HK := Aside0.mk (show WK w wv.drew g from ⟨HK.out.os, HK.out.tape, HK.out.output, HK.out.size, HK.out.block⟩)
          replace B2 := Aside0.mk (show wv.drew.heap[g2]? = _ from B2.out)
          generalize wv.drew = wv at HR HK B2 hHeld ⊢
          refine pure_ (i := 0) (N := some 52) (v := ?_) (a' := ?_) #[true, false, false, false, false, false, false, false, false] rfl rfl (by kernel_rfl) (fun _ _ _ h => h) (Or.inl ⟨by rfl, ?_⟩) ?_ ?_
          rotate_left
          · intro w'
            go_simp
            with_reducible rfl
          rotate_left
          · simp only [Act.put, List.setIfInBounds_toArray, List.set_cons_zero, List.set_cons_succ, i64_w, i32_w]
            rfl
          refine pure_ (i := 1) (N := some 53) (v := ?_) (a' := ?_) #[true, true, false, false, false, false, false, false, false] rfl rfl (by kernel_rfl) (fun _ _ _ h => h) (Or.inl ⟨by rfl, ?_⟩) ?_ ?_
          rotate_left
          · intro w'
            go_simp
            with_reducible rfl
          rotate_left
          · simp only [Act.put, List.setIfInBounds_toArray, List.set_cons_zero, List.set_cons_succ, i64_w, i32_w]
            rfl
          refine pure_ (i := 2) (N := some 54) (v := ?_) (a' := ?_) #[true, true, true, false, false, false, false, false, false] rfl rfl (by kernel_rfl) (fun _ _ _ h => h) (Or.inl ⟨by rfl, ?_⟩) ?_ ?_
          rotate_left
          · intro w'
            go_simp
            with_reducible rfl
          rotate_left
          · simp only [Act.put, List.setIfInBounds_toArray, List.set_cons_zero, List.set_cons_succ, i64_w, i32_w]
            rfl
          refine pure_ (i := 3) (N := some 55) (v := ?_) (a' := ?_) #[true, true, true, true, false, false, false, false, false] rfl rfl (by kernel_rfl) (fun _ _ _ h => h) (Or.inl ⟨by rfl, ?_⟩) ?_ ?_
          rotate_left
          · intro w'
            go_simp
            with_reducible rfl
          rotate_left
          · simp only [Act.put, List.setIfInBounds_toArray, List.set_cons_zero, List.set_cons_succ, i64_w, i32_w]
            rfl
          refine take_ (i := 4) (N := some 56) (v := ?_) (a' := ?_) #[true, true, true, true, true, false, false, false, false] rfl rfl (by kernel_rfl) (fun _ _ _ h => h) (Or.inl ⟨by rfl, ?_⟩) hHeld ?_ ?_
          rotate_left
          · intro w' s0
            go_simp
            with_reducible rfl
          rotate_left
          · simp only [Act.put, List.setIfInBounds_toArray, List.set_cons_zero, List.set_cons_succ, i64_w, i32_w]
            rfl
          refine pure_ (i := 5) (N := some 57) (v := ?_) (a' := ?_) #[true, true, true, true, true, true, false, false, false] rfl rfl (by kernel_rfl) (fun _ _ _ h => h) (Or.inl ⟨by rfl, ?_⟩) ?_ ?_
          rotate_left
          · intro w'
            go_simp
            with_reducible rfl
          rotate_left
          · simp only [Act.put, List.setIfInBounds_toArray, List.set_cons_zero, List.set_cons_succ, i64_w, i32_w]
            rfl
          refine one_ (i := 6) (N := none) #[true, true, true, true, true, true, true, false, false] rfl rfl (by kernel_rfl) (by decide) (fun K hK => ?_)
          rw [if_pos (by rfl)]
          refine wp_store_row 62 _ _ rfl g2 #[.int .i64 0, .int .i64 0] rfl rfl 62 #[.int .i64 0, .int .i64 0] B2.out (by kernel_rfl) rfl (by first | kernel_rfl | (simp [Value.oneCell']; done) | decide) ?_
          refine hK.out _ _ ((blk_cell ((setRow_other _ _ _ _ (fun e => N2.out e.symm)).trans HR.out) 0).trans rfl) (fun hHeld => ?_)
          clear hK K
          refine pure_ (i := 7) (N := some 3) (v := ?_) (a' := ?_) #[true, true, true, true, true, true, true, true, false] rfl rfl (by kernel_rfl) (fun _ _ _ h => h) (Or.inl ⟨by rfl, ?_⟩) ?_ ?_
          rotate_left
          · intro w'
            go_simp
            with_reducible rfl
          rotate_left
          · simp only [Act.put, List.setIfInBounds_toArray, List.set_cons_zero, List.set_cons_succ, i64_w, i32_w]
            rfl
          refine pure_ (i := 8) (N := some 4) (v := ?_) (a' := ?_) #[true, true, true, true, true, true, true, true, true] rfl rfl (by kernel_rfl) (fun _ _ _ h => h) (Or.inl ⟨by rfl, ?_⟩) ?_ ?_
          rotate_left
          · intro w'
            go_simp
            with_reducible rfl
          rotate_left
          · simp only [Act.put, List.setIfInBounds_toArray, List.set_cons_zero, List.set_cons_succ, i64_w, i32_w]
            rfl
          refine done_ (by kernel_rfl) ?_
          (try go_wp2)
          refine bodyPost_ret (results_ctt rfl _ _ g2 62 _ (0, 0) _ rfl (setRow_heap _ _ _ #[.int .i64 0, .int .i64 0] _ _ B2.out) Try.underlying62 rfl (by kernel_rfl)) rfl ?_
          rw [HN.out]
          exact PostB.bad HEB.out HS.out ((setRow_other _ _ _ _ (fun e => N2.out e.symm)).trans HR.out) (K_row HK.out G2.out _)
        | some u =>
          have H4 := Aside0.mk h4
          have hb2 : beginP s = if f < u ∧ u ≤ 40320 then some (f, u) else none := by rw [HBP.out, h2, Option.bind_some, h4, Option.bind_some]
          have hbe : beginE s = if u ≤ f then (2, 3) else (4, 4) := by rw [HBE.out, h2, h4]
          clear h2 h4
          by_cases k1 : f < u
          · have k2 : (u ≤ f) = False := eq_false (by omega)
            by_cases k3 : u ≤ 40320
            · have k4 : (u > 40320) = False := eq_false (by omega)
              have k5 : (40320 < u) = False := eq_false (by omega)
              have HN := Aside0.mk (show beginP s = some (f, u) by rw [hb2, if_pos ⟨k1, k3⟩])
              clear hb2 hbe
              clear k1 k3
              go_wp2_with (first | ((with_reducible refine gate_store (t := 3) (p := 38) rfl ?_); refine store_event (t := 3) (p := 38) (v := .const (.int .i64 2)) (w1 := (wv.setCell ⟨g, 1, none⟩ (.int .i64 ((2 : Nat) : Int)))) ?hg ?ho ?hn ?hr ?_; (case ho => rfl); (case hg => rfl); (case hn => rfl); (case hr => first | (go_simp; done) | (go_simp; rfl)); intro wv hw; replace B2 := Aside0.mk (show wv.heap[g2]? = some (.cells #[.int .i64 0, .int .i64 0] 62 (0, 0)) by rw [hw]; exact blk_far B2.out N2.out _); replace HR := Aside0.mk (show IsRd wv g s 2 by rw [hw]; exact blk_put HR.out 1 _ rfl); replace HK := Aside0.mk (show WK w wv g by rw [hw]; exact HK.out.set 1 _); clear hw hr1 hfz) | (go_at_call 36; (with_reducible refine (take_y g s 2 HS.out (by decide) f H2.out _ HR.out).mono ?_); rintro e_ wv ⟨rfl, hr, hk⟩; replace HR := Aside0.mk hr; replace HK := Aside0.mk (HK.out.trans hk); replace B2 := Aside0.mk (WK.blk hk B2.out N2.out); clear hr hk) | (go_at_call 36; (with_reducible refine (take_y g s 4 HS.out (by decide) u H4.out _ HR.out).mono ?_); rintro e_ wv ⟨rfl, hr, hk⟩; replace HR := Aside0.mk hr; replace HK := Aside0.mk (HK.out.trans hk); replace B2 := Aside0.mk (WK.blk hk B2.out N2.out); clear hr hk) | ((with_reducible refine gate_store (t := 62) (p := 2) rfl ?_); refine wpList_store_row rfl 62 _ _ rfl g2 #[.int .i64 f, .int .i64 u] rfl rfl 62 #[.int .i64 0, .int .i64 0] B2.out (by kernel_rfl) rfl (by simp [Value.oneCell']) ?_; replace HR := Aside0.mk (show IsRd (wv.setRow g2 #[.int .i64 f, .int .i64 u]) g s _ from (setRow_other _ _ _ _ (fun e => N2.out e.symm)).trans HR.out); replace HK := Aside0.mk (K_row HK.out G2.out #[.int .i64 f, .int .i64 u]); replace B2 := Aside0.mk (setRow_heap _ _ _ #[.int .i64 f, .int .i64 u] _ _ B2.out); generalize wv.setRow g2 #[.int .i64 f, .int .i64 u] = wv at HR HK B2 ⊢))
              refine bodyPost_ret (results_ctt rfl _ _ g2 62 _ (0, 0) _ rfl B2.out Try.underlying62 rfl (by kernel_rfl)) rfl ?_
              rw [HN.out]
              refine ⟨fun f2 u2 h => ?_, fun h => (by cases h)⟩
              simp only [Option.some.injEq, Prod.mk.injEq] at h
              obtain ⟨rfl, rfl⟩ := h
              exact ⟨rfl, HR.out, HK.out⟩
            · have k4 : (u > 40320) = True := eq_true (by omega)
              have k5 : (40320 < u) = True := eq_true (by omega)
              have HN := Aside0.mk (show beginP s = none by rw [hb2, if_neg (fun h => k3 h.2)])
              have HEB := Aside0.mk (show beginE s = (4, 4) by rw [hbe, if_neg (by omega)])
              clear hb2 hbe
              clear k1 k3
              go_wp2_with (first | ((with_reducible refine gate_store (t := 3) (p := 38) rfl ?_); refine store_event (t := 3) (p := 38) (v := .const (.int .i64 2)) (w1 := (wv.setCell ⟨g, 1, none⟩ (.int .i64 ((2 : Nat) : Int)))) ?hg ?ho ?hn ?hr ?_; (case ho => rfl); (case hg => rfl); (case hn => rfl); (case hr => first | (go_simp; done) | (go_simp; rfl)); intro wv hw; replace B2 := Aside0.mk (show wv.heap[g2]? = some (.cells #[.int .i64 0, .int .i64 0] 62 (0, 0)) by rw [hw]; exact blk_far B2.out N2.out _); replace HR := Aside0.mk (show IsRd wv g s 2 by rw [hw]; exact blk_put HR.out 1 _ rfl); replace HK := Aside0.mk (show WK w wv g by rw [hw]; exact HK.out.set 1 _); clear hw hr1 hfz) | (go_at_call 36; (with_reducible refine (take_y g s 2 HS.out (by decide) f H2.out _ HR.out).mono ?_); rintro e_ wv ⟨rfl, hr, hk⟩; replace HR := Aside0.mk hr; replace HK := Aside0.mk (HK.out.trans hk); replace B2 := Aside0.mk (WK.blk hk B2.out N2.out); clear hr hk) | (go_at_call 36; (with_reducible refine (take_y g s 4 HS.out (by decide) u H4.out _ HR.out).mono ?_); rintro e_ wv ⟨rfl, hr, hk⟩; replace HR := Aside0.mk hr; replace HK := Aside0.mk (HK.out.trans hk); replace B2 := Aside0.mk (WK.blk hk B2.out N2.out); clear hr hk) | ((with_reducible refine gate_store (t := 62) (p := 2) rfl ?_); refine wpList_store_row rfl 62 _ _ rfl g2 #[.int .i64 0, .int .i64 0] rfl rfl 62 #[.int .i64 0, .int .i64 0] B2.out (by kernel_rfl) rfl (by simp [Value.oneCell']) ?_; replace HR := Aside0.mk (show IsRd (wv.setRow g2 #[.int .i64 0, .int .i64 0]) g s _ from (setRow_other _ _ _ _ (fun e => N2.out e.symm)).trans HR.out); replace HK := Aside0.mk (K_row HK.out G2.out #[.int .i64 0, .int .i64 0]); replace B2 := Aside0.mk (setRow_heap _ _ _ #[.int .i64 0, .int .i64 0] _ _ B2.out); generalize wv.setRow g2 #[.int .i64 0, .int .i64 0] = wv at HR HK B2 ⊢))
              refine bodyPost_ret (results_ctt rfl _ _ g2 62 _ (0, 0) _ rfl B2.out Try.underlying62 rfl (by kernel_rfl)) rfl ?_
              rw [HN.out]
              exact PostB.bad HEB.out (by first | exact HS.out | decide) HR.out HK.out
          · have k2 : (u ≤ f) = True := eq_true (by omega)
            have HN := Aside0.mk (show beginP s = none by rw [hb2, if_neg (fun h => k1 h.1)])
            have HEB := Aside0.mk (show beginE s = (2, 3) by rw [hbe, if_pos (by omega)])
            clear hb2 hbe
            clear k1
            go_wp2_with (first | ((with_reducible refine gate_store (t := 3) (p := 38) rfl ?_); refine store_event (t := 3) (p := 38) (v := .const (.int .i64 2)) (w1 := (wv.setCell ⟨g, 1, none⟩ (.int .i64 ((2 : Nat) : Int)))) ?hg ?ho ?hn ?hr ?_; (case ho => rfl); (case hg => rfl); (case hn => rfl); (case hr => first | (go_simp; done) | (go_simp; rfl)); intro wv hw; replace B2 := Aside0.mk (show wv.heap[g2]? = some (.cells #[.int .i64 0, .int .i64 0] 62 (0, 0)) by rw [hw]; exact blk_far B2.out N2.out _); replace HR := Aside0.mk (show IsRd wv g s 2 by rw [hw]; exact blk_put HR.out 1 _ rfl); replace HK := Aside0.mk (show WK w wv g by rw [hw]; exact HK.out.set 1 _); clear hw hr1 hfz) | (go_at_call 36; (with_reducible refine (take_y g s 2 HS.out (by decide) f H2.out _ HR.out).mono ?_); rintro e_ wv ⟨rfl, hr, hk⟩; replace HR := Aside0.mk hr; replace HK := Aside0.mk (HK.out.trans hk); replace B2 := Aside0.mk (WK.blk hk B2.out N2.out); clear hr hk) | (go_at_call 36; (with_reducible refine (take_y g s 4 HS.out (by decide) u H4.out _ HR.out).mono ?_); rintro e_ wv ⟨rfl, hr, hk⟩; replace HR := Aside0.mk hr; replace HK := Aside0.mk (HK.out.trans hk); replace B2 := Aside0.mk (WK.blk hk B2.out N2.out); clear hr hk) | ((with_reducible refine gate_store (t := 62) (p := 2) rfl ?_); refine wpList_store_row rfl 62 _ _ rfl g2 #[.int .i64 0, .int .i64 0] rfl rfl 62 #[.int .i64 0, .int .i64 0] B2.out (by kernel_rfl) rfl (by simp [Value.oneCell']) ?_; replace HR := Aside0.mk (show IsRd (wv.setRow g2 #[.int .i64 0, .int .i64 0]) g s _ from (setRow_other _ _ _ _ (fun e => N2.out e.symm)).trans HR.out); replace HK := Aside0.mk (K_row HK.out G2.out #[.int .i64 0, .int .i64 0]); replace B2 := Aside0.mk (setRow_heap _ _ _ #[.int .i64 0, .int .i64 0] _ _ B2.out); generalize wv.setRow g2 #[.int .i64 0, .int .i64 0] = wv at HR HK B2 ⊢))
            refine bodyPost_ret (results_ctt rfl _ _ g2 62 _ (0, 0) _ rfl B2.out Try.underlying62 rfl (by kernel_rfl)) rfl ?_
            rw [HN.out]
            exact PostB.bad HEB.out (by first | exact HS.out | decide) HR.out HK.out
end Go.Proofs.Ytjpnfhnmcgejhaa.Dd3
