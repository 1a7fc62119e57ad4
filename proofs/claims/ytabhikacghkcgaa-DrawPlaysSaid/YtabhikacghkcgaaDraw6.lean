/- The draws that lead to numbers: what draw.Lead does, for every number and every row that came in (fewer than 1,000,000). -/
import Derived.Test.YtabhikacghkcgaaDraw2
import Derived.Shelf.Slices.SearchI
import Derived.Shelf.Slices.Empties
namespace Go.Proofs.Ytabhikacghkcgaa.Draw6
open Go.RowKit Go.Proofs.YtabhikacghkcgaaW.PrintWords Go.Proofs.YtabhikacghkcgaaW.PrintLast Go.Proofs.YtabhikacghkcgaaW.PrintMore Go.Proofs.Ytabhikacghkcgaa.Ints Go.Proofs.Ytabhikacghkcgaa.Draw1 Go.Proofs.Ytabhikacghkcgaa.Draw2
attribute [local go_sem] max2_int min2_int max_two min_two max_three min_three max_four min_four
set_option linter.unusedVariables false
set_option linter.unusedSimpArgs false
def ren : Go.Shelf.Ren := ⟨fun | 25 => 18 | 31 => 20 | 32 => 21 | 37 => 24 | n => n, fun | 22 => 22 | 40 => 50 | n => n, fun n => n⟩
theorem lays : Lays2.n25 Try.prog ren := {
  mixed := (by kernel_rfl)
  f25 := Try.func18.trans (congrArg some (by kernel_rfl))
  f31 := Try.func20.trans (congrArg some (by kernel_rfl))
  f32 := Try.func21.trans (congrArg some (by kernel_rfl))
  f37 := Try.func24.trans (congrArg some (by kernel_rfl))
  t0 := Try.underlying0
  a0 := Try.isAgg0
  z0 := Try.sizeOf0
  v0 := Try.zeroValue0
  t3 := Try.underlying3
  a3 := Try.isAgg3
  z3 := Try.sizeOf3
  v3 := Try.zeroValue3
  t4 := Try.underlying4
  a4 := Try.isAgg4
  z4 := Try.sizeOf4
  v4 := Try.zeroValue4
  t22 := Try.underlying22
  a22 := Try.isAgg22
  z22 := Try.sizeOf22
  v22 := Try.zeroValue22
  t40 := Try.underlying50
  a40 := Try.isAgg50
  z40 := Try.sizeOf50
  v40 := Try.zeroValue50 }
theorem bs {base : Nat} {ok : Nat → Prop} {A : Option Addr} {c : Nat} {pk : List Int} {w : World} (h : RI w base ok (.slice A pk.length c) pk) (hs : pk.Pairwise (· ≤ ·)) (hl : pk.length ≤ 1000000) (x : Int) (a : Nat) (ha : pk.countP (· < x) = a) (b : Bool) (hb : pk.contains x = b) :
    Calls Try.prog 18 #[.slice A pk.length c, .int .i64 x] w fun e w' => e = .returned (.tuple #[.int .i64 (a : Int), .bool b]) ∧ ∃ q, w' = w.drewN q := by
  subst ha
  subst hb
  by_cases h0 : pk.length = 0
  · obtain rfl := List.eq_nil_of_length_eq_zero h0
    exact (Any.slices_BinarySearch_int_empty lays A c x w).mono fun e w' ⟨he, hw⟩ => ⟨by rw [he]; rfl, 0, by rw [hw]; rfl⟩
  · obtain ⟨g, cap, hv, _, _, _⟩ := Kd.R_form h (by omega)
    obtain ⟨rfl, rfl⟩ : A = some ⟨g, 0, none⟩ ∧ c = cap := by
      injection hv with h1 h2 h3
      exact ⟨h1, h3⟩
    have hC := (Kd.R_reads' h).2.2
    have hc : ∀ j, j < pk.length → w.cell? ⟨g, 0 + j, none⟩ = some (.int .i64 (pk.getD j 0)) := by
      intro j hj
      obtain ⟨ad, e, hcl⟩ := Kd.at_int hC (j : Int) (by omega) (by omega)
      injection e with e
      subst e
      rw [Int.toNat_natCast, add_plain] at hcl
      rw [Nat.zero_add]
      simpa [rd] using hcl
    have hh := Any.slices_BinarySearch_int lays g 0 pk.length c pk x w (Nat.le_refl _) (by omega) hc (by rw [List.take_length]; exact hs)
    rw [List.take_length] at hh
    exact hh
def leadL (n : Int) : List Int → List Int → List Int → List Int × Bool
  | [], pk, out => (out, true)
  | x :: t, pk, out => if pk.contains x = true ∨ x < 0 ∨ x ≥ n then ([], false) else leadL n t (insP pk (x, pk.countP (· < x))) (out ++ [wrap64 (x - (pk.countP (· < x) : Nat))])
theorem countP_split {pk : List Int} (hs : pk.Pairwise (· ≤ ·)) (x : Int) : (∀ y ∈ pk.take (pk.countP (· < x)), y < x) ∧ (∀ y ∈ pk.drop (pk.countP (· < x)), x ≤ y) := by
  induction pk with
  | nil => simp
  | cons p t ih =>
    rw [List.pairwise_cons] at hs
    have ih := ih hs.2
    by_cases h : p < x
    · rw [List.countP_cons_of_pos (by simpa using h)]
      simp only [List.take_succ_cons, List.drop_succ_cons, List.mem_cons]
      exact ⟨fun y hy => by rcases hy with rfl | hy; exact h; exact ih.1 y hy, ih.2⟩
    · have h0 : t.countP (· < x) = 0 := by
        rw [List.countP_eq_zero]
        intro y hy
        have := hs.1 y hy
        simp only [decide_eq_true_eq]
        omega
      rw [List.countP_cons_of_neg (by simpa using h), h0]
      refine ⟨by simp, fun y hy => ?_⟩
      simp only [List.drop_zero, List.mem_cons] at hy
      rcases hy with rfl | hy
      · omega
      · have := hs.1 y hy
        omega
theorem ins_sorted {pk : List Int} (hs : pk.Pairwise (· ≤ ·)) (x : Int) : (insP pk (x, pk.countP (· < x))).Pairwise (· ≤ ·) := by
  obtain ⟨h1, h2⟩ := countP_split hs x
  unfold insP
  rw [List.append_assoc, List.pairwise_append]
  refine ⟨hs.sublist (List.take_sublist _ _), ?_, fun a ha b hb => ?_⟩
  · rw [List.singleton_append, List.pairwise_cons]
    exact ⟨fun b hb => h2 b hb, hs.sublist (List.drop_sublist _ _)⟩
  · simp only [List.singleton_append, List.mem_cons] at hb
    have := h1 a ha
    rcases hb with rfl | hb
    · omega
    · have := h2 b hb
      omega
theorem ins_len (pk : List Int) (x : Int) (a : Nat) (h : a ≤ pk.length) : (insP pk (x, a)).length = pk.length + 1 := by
  unfold insP
  simp
  omega
set_option maxHeartbeats 8000000 in
set_option maxRecDepth 100000 in
theorem lead_ (A : Option Addr) (c : Nat) (l : List Int) (n : Int) (w : World) (hC : CI w A l) (hl : l.length ≤ 1000000) (r : List Int × Bool) (hr : leadL n l [] [] = r) :
    Calls Try.prog 13 #[.int .i64 n, .slice A l.length c] w fun e w' => ∃ v0 : Value, e = .returned (.tuple #[v0, .bool r.2]) ∧ RI w' w.heap.size (fun _ => True) v0 r.1 ∧ Below w.heap.size w w' := by
  have HC := Aside0.mk hC
  have HLL := Aside0.mk hl
  have HR := Aside0.mk hr
  have HB := Aside0.mk (Below.refl w.heap.size w)
  clear hC hl hr
  go_enter Try.func13, Try.ntmps13
  go_wp2
  go_loopg [6, 7, 14] l.length (fun kq v6 v7 v14 w' => ∃ (i : Nat) (out pk : List Int), v14 = .int .i64 (i : Int) ∧ Aside0 (i ≤ l.length) ∧ Aside0 (l.length - i ≤ kq) ∧ Aside0 (leadL n (l.drop i) pk out = r) ∧ Aside0 (pk.length = i) ∧ Aside0 (out.length = i) ∧ Aside0 (pk.Pairwise (· ≤ ·)) ∧ Aside0 (RI w' w.heap.size (fun k => True ∧ some k ≠ (v7 : Value).ownBlock) v6 out) ∧ Aside0 (RI w' w.heap.size (fun k => True ∧ some k ≠ (v6 : Value).ownBlock) v7 pk) ∧ Aside0 (Below w.heap.size w w'))
  case atStart => exact ⟨0, [], [], rfl, ⟨Nat.zero_le _⟩, ⟨by omega⟩, ⟨by simpa using HR.out⟩, ⟨rfl⟩, ⟨rfl⟩, ⟨List.Pairwise.nil⟩, ⟨Kd.R_nil _ _ _ _ _⟩, ⟨Kd.R_nil _ _ _ _ _⟩, HB⟩
  case round =>
    clear HB HR
    obtain ⟨i, out, pk, rfl, HJ, HKQ, HP, HPI, HOI, HSRT, H6, H7, HB⟩ := hrel
    by_cases c1 : (i : Int) < (l.length : Int)
    · have HIN := Aside0.mk (show i < l.length by omega)
      obtain ⟨ad, rfl, hcl⟩ := Kd.at_int (Kd.C_below HC.out HB.out) (i : Int) (by omega) c1
      rw [Int.toNat_natCast] at hcl
      obtain ⟨A7, c7, e7⟩ := Kd.R_slice H7.out
      subst e7
      have hp := HP.out
      rw [List.drop_eq_getElem_cons HIN.out, leadL, show l[i] = rd l (i : Int) by simp [rd, HIN.out]] at hp
      obtain ⟨x, hx⟩ : ∃ x, x = rd l (i : Int) := ⟨_, rfl⟩
      rw [← hx] at hp hcl
      obtain ⟨a, ha⟩ : ∃ a, pk.countP (· < x) = a := ⟨_, rfl⟩
      obtain ⟨b, hb⟩ : ∃ b, pk.contains x = b := ⟨_, rfl⟩
      have HAP := Aside0.mk (show a ≤ pk.length from ha ▸ List.countP_le_length)
      have HPL := Aside0.mk (show pk.length ≤ 1000000 by have := HPI.out; have := HLL.out; omega)
      have HOL := Aside0.mk (show out.length = pk.length by rw [HOI.out, HPI.out])
      have HSR2 := Aside0.mk (ha ▸ ins_sorted HSRT.out x)
      rw [ha, hb] at hp
      have HCP := Aside0.mk ha
      have HCT := Aside0.mk hb
      have HW := Aside0.mk (show wrap64 ((i : Int) + 1) = ((i + 1 : Nat) : Int) by have := HLL.out; unfold wrap64; omega)
      have p1 : (0 ≤ (i : Int)) = True := eq_true (by omega)
      replace c1 := eq_true c1
      clear ha hb hx
      cases b with
      | true =>
        rw [if_pos (by first | exact .inl rfl | exact .inr (.inl (by assumption)) | exact .inr (.inr (by assumption)))] at hp
        subst hp
        skip
        go_wp2_with (first | (go_at_call 18; with_reducible refine (bs H7.out HSRT.out HPL.out x a HCP.out _ HCT.out).mono ?_; rintro e wv ⟨rfl, nq, rfl⟩; replace H6 := Aside0.mk (Kd.R_drewN H6.out nq); replace H7 := Aside0.mk (Kd.R_drewN H7.out nq); replace HB := Aside0.mk (pw_below_drewN HB.out nq)))
        first | go_ret | go_ret2
        exact ⟨_, rfl, Kd.R_nil _ _ _ _ _, HB.out⟩
      | false =>
        by_cases cx : x < 0
        · skip
          rw [if_pos (by first | exact .inl rfl | exact .inr (.inl (by assumption)) | exact .inr (.inr (by assumption)))] at hp
          subst hp
          replace cx := eq_true cx
          go_wp2_with (first | (go_at_call 18; with_reducible refine (bs H7.out HSRT.out HPL.out x a HCP.out _ HCT.out).mono ?_; rintro e wv ⟨rfl, nq, rfl⟩; replace H6 := Aside0.mk (Kd.R_drewN H6.out nq); replace H7 := Aside0.mk (Kd.R_drewN H7.out nq); replace HB := Aside0.mk (pw_below_drewN HB.out nq)))
          first | go_ret | go_ret2
          exact ⟨_, rfl, Kd.R_nil _ _ _ _ _, HB.out⟩
        · by_cases cn : x ≥ n
          · skip
            rw [if_pos (by first | exact .inl rfl | exact .inr (.inl (by assumption)) | exact .inr (.inr (by assumption)))] at hp
            subst hp
            (have cn2 : (n ≤ x) = True := eq_true cn); replace cn := eq_true cn; replace cx := eq_false cx
            go_wp2_with (first | (go_at_call 18; with_reducible refine (bs H7.out HSRT.out HPL.out x a HCP.out _ HCT.out).mono ?_; rintro e wv ⟨rfl, nq, rfl⟩; replace H6 := Aside0.mk (Kd.R_drewN H6.out nq); replace H7 := Aside0.mk (Kd.R_drewN H7.out nq); replace HB := Aside0.mk (pw_below_drewN HB.out nq)))
            first | go_ret | go_ret2
            exact ⟨_, rfl, Kd.R_nil _ _ _ _ _, HB.out⟩
          · rw [if_neg (by simp [cx, cn])] at hp
            have HP2 := Aside0.mk hp
            clear hp
            replace cx := eq_false cx
            have cn2 : (n ≤ x) = False := eq_false cn
            replace cn := eq_false cn
            go_wp2_with (first | (go_at_call 18; with_reducible refine (bs H7.out HSRT.out HPL.out x a HCP.out _ HCT.out).mono ?_; rintro e wv ⟨rfl, nq, rfl⟩; replace H6 := Aside0.mk (Kd.R_drewN H6.out nq); replace H7 := Aside0.mk (Kd.R_drewN H7.out nq); replace HB := Aside0.mk (pw_below_drewN HB.out nq)) | ((with_reducible refine gate_dst (N := 37) rfl ?_); refine lit ?hg (N := 37) ?hd (cs := #[.int .i64 x]) (e := 3) (n := 1) ?hr ?_; (case hd => rfl); (case hg => rfl); (case hr => first | (go_simp; done) | (go_simp; rfl)); intro gl wv hgl hl hb; have HL := Aside0.mk hl; have HLS := Aside0.mk (show ∀ k, (Value.slice A7 pk.length c7).ownBlock = some k → k < gl from fun k hk => by rw [hgl]; exact Kd.R_lt H7.out k hk); replace H6 := Aside0.mk (Kd.R_below H6.out hb); replace H7 := Aside0.mk (Kd.R_below H7.out hb); replace HB := Aside0.mk (below_step HB.out hb); clear hgl hl hb) | (go_at_call 19; with_reducible refine (ins1 w.heap.size pk x a (.slice A7 pk.length c7) gl _ (own_RI H7.out) HAP.out (by have := HPL.out; omega) HL.out (fun e => absurd (HLS.out gl e) (Nat.lt_irrefl _)) (below_size HB.out)).mono ?_; rintro e wv ⟨v1, rfl, ho, hg', hat⟩; have n6 := Aside0.mk (RI_after H6.out hg' hat); have n7 := Aside0.mk (RI_own ho (ins_ok H7.out H6.out hat)); replace HB := Aside0.mk (HB.out.grown hg' (below_size HB.out) (Kd.R_base H7.out)); replace H6 := n6; replace H7 := n7; clear ho hg' hat n6 n7 HL HLS) | ((with_reducible refine gate_builtin (b := .append) (xs := #[.tmp 39, .tmp 43]) rfl ?_); at_builtin; refine app1 w.heap.size rfl (.tmp 39) (.tmp 43) rfl _ out (wrap64 (x - (a : Int))) (fun k => True ∧ some k ≠ (v1 : Value).ownBlock) rfl rfl H6.out (fun k hk => ⟨trivial, fun e => by have := Kd.R_lt H7.out k e.symm; omega⟩) (below_size HB.out) (by have := HPL.out; have := HOL.out; omega) ?_; intro v2 w2 ho hg hat; replace HB := Aside0.mk (HB.out.grown hg (below_size HB.out) (Kd.R_base H6.out)); replace H7 := Aside0.mk (RI_after H7.out hg hat); replace H6 := Aside0.mk ho; clear ho hg hat))
            go_roundg (l.length - (i + 1))
            case measure => have := HJ.out; have := HKQ.out; have := HIN.out; omega
            case rel => exact ⟨i + 1, _, _, by first | rfl | rw [HW.out], ⟨by have := HIN.out; omega⟩, ⟨by omega⟩, ⟨HP2.out⟩, ⟨by rw [ins_len _ _ _ HAP.out, HPI.out]⟩, ⟨by rw [List.length_append, HOI.out]; rfl⟩, HSR2, H6, H7, HB⟩
    · obtain rfl : i = l.length := by have := HJ.out; omega
      replace c1 := eq_false c1
      have hp := HP.out
      rw [List.drop_length, leadL] at hp
      subst hp
      go_wp2
      first | go_ret | go_ret2
      exact ⟨_, rfl, Kd.R_mono H6.out (fun _ _ => trivial), HB.out⟩
end Go.Proofs.Ytabhikacghkcgaa.Draw6
