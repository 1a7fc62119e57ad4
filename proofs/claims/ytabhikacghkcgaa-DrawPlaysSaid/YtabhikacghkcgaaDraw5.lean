/- What the reference's Pick answers of draws that came in: for every row and all numbers (at most 1,000,000 to pick from); what is left is read where it came in. -/
import Derived.Test.YtabhikacghkcgaaDraw4
namespace Go.Proofs.Ytabhikacghkcgaa.Draw5
open Go.RowKit Go.Proofs.YtabhikacghkcgaaW.PrintWords Go.Proofs.YtabhikacghkcgaaW.PrintLast Go.Proofs.YtabhikacghkcgaaW.PrintMore Go.Proofs.Ytabhikacghkcgaa.Ints Go.Proofs.Ytabhikacghkcgaa.Draw1 Go.Proofs.Ytabhikacghkcgaa.Draw2 Go.Proofs.Ytabhikacghkcgaa.Draw4
attribute [local go_sem] max2_int min2_int max_two min_two max_three min_three max_four min_four
set_option linter.unusedVariables false
set_option linter.unusedSimpArgs false
def rangeI (j : Nat) : List Int := (List.range j).map (fun i : Nat => (i : Int))
theorem rangeI_succ (j : Nat) : rangeI (j + 1) = rangeI j ++ [(j : Int)] := by simp [rangeI, List.range_succ]
theorem rangeI_len (j : Nat) : (rangeI j).length = j := by simp [rangeI]
def rpL (l : List Int) : Nat → Nat → List Int → List Int → List Int
  | 0, j, rest, out => out
  | d + 1, j, rest, out => rpL l d (j + 1) (rest.take (md (rd l (j : Int)) (rest.length : Int)).toNat ++ rest.drop ((md (rd l (j : Int)) (rest.length : Int)).toNat + 1)) (out ++ [rd rest (md (rd l (j : Int)) (rest.length : Int))])
def rpS (l : List Int) (n k : Int) : List Int × Bool × List Int :=
  if n < 0 ∨ k < 0 ∨ k > n then ([], false, l) else if (l.length : Int) < k then ([], false, []) else (rpL l k.toNat 0 (rangeI n.toNat) [], true, l.drop k.toNat)
theorem RI_nil_apart {w : World} {base : Nat} {ok : Nat → Prop} {v : Value} {xs : List Int} (h : RI w base ok v xs) : RI w base (fun k => True ∧ some k ≠ (Value.slice none 0 0).ownBlock) v xs := Kd.R_mono (Kd.R_apart_nil h) (fun _ hk => ⟨trivial, hk.2⟩)
theorem ok_fresh {w : World} {base : Nat} {ok : Nat → Prop} {v : Value} {xs : List Int} (h : RI w base ok v xs) : ∀ k, w.heap.size ≤ k → True ∧ some k ≠ v.ownBlock := fun k hk => ⟨trivial, fun e => by have := Kd.R_lt h k e.symm; omega⟩
theorem ok_fresh2 {w : World} (v : Value) (h : ∀ k, v.ownBlock = some k → k < w.heap.size) : ∀ k, w.heap.size ≤ k → True ∧ some k ≠ v.ownBlock := fun k hk => ⟨trivial, fun e => by have := h k e.symm; omega⟩
theorem below_of {B : Nat} {w w1 w2 : World} {row : Option Nat} (h : Below B w w1) (hg : w1.grownBy w2 row) (hr : ∀ b, row = some b → B ≤ b) (hs : B ≤ w1.heap.size) : Below B w w2 := h.grown hg hs hr
set_option maxHeartbeats 8000000 in
set_option maxRecDepth 100000 in
theorem rpick_a (W0 : World) (A : Option Addr) (c : Nat) (l : List Int) (n k : Int) (w : World) (hb0 : Below W0.heap.size W0 w) (hC : CI W0 A l) (hc : l.length ≤ c) (h : n < 0 ∨ (¬ n < 0 ∧ k < 0) ∨ (¬ n < 0 ∧ ¬ k < 0 ∧ k > n)) : Calls Try.prog 8 #[.slice A l.length c, .int .i64 n, .int .i64 k] w fun e w' => ∃ v0 A2 c2, e = .returned (.tuple #[v0, .bool false, .slice A2 l.length c2]) ∧ RI w' w.heap.size (fun _ => True) v0 [] ∧ CI W0 A2 l ∧ l.length ≤ c2 ∧ Below w.heap.size w w' := by
  have HC := Aside0.mk hC
  have HL := Aside0.mk hc
  clear hC hb0 hc
  rcases h with h1 | ⟨h1, h2⟩ | ⟨h1, h2, h3⟩
  · replace h1 := eq_true h1
    go_enter Try.func8, Try.ntmps8
    go_wp2
    first | go_ret | go_ret2 | go_ret3
    exact ⟨_, _, _, rfl, Kd.R_nil _ _ _ _ _, HC.out, HL.out, Below.refl _ _⟩
  · replace h1 := eq_false h1
    replace h2 := eq_true h2
    go_enter Try.func8, Try.ntmps8
    go_wp2
    first | go_ret | go_ret2 | go_ret3
    exact ⟨_, _, _, rfl, Kd.R_nil _ _ _ _ _, HC.out, HL.out, Below.refl _ _⟩
  · replace h1 := eq_false h1
    replace h2 := eq_false h2
    replace h3 := eq_true h3
    go_enter Try.func8, Try.ntmps8
    go_wp2
    first | go_ret | go_ret2 | go_ret3
    exact ⟨_, _, _, rfl, Kd.R_nil _ _ _ _ _, HC.out, HL.out, Below.refl _ _⟩
set_option maxHeartbeats 8000000 in
set_option maxRecDepth 100000 in
theorem rpick_b (W0 : World) (A : Option Addr) (c : Nat) (l : List Int) (n k : Int) (w : World) (hb0 : Below W0.heap.size W0 w) (hC : CI W0 A l) (hc : l.length ≤ c) (h1 : ¬ n < 0) (h2 : ¬ k < 0) (h3 : ¬ k > n) (h4 : (l.length : Int) < k) : Calls Try.prog 8 #[.slice A l.length c, .int .i64 n, .int .i64 k] w fun e w' => ∃ v0 A2 c2, e = .returned (.tuple #[v0, .bool false, .slice A2 ([] : List Int).length c2]) ∧ RI w' w.heap.size (fun _ => True) v0 [] ∧ CI W0 A2 ([] : List Int) ∧ ([] : List Int).length ≤ c2 ∧ Below w.heap.size w w' := by
  clear hC hb0 hc
  replace h1 := eq_false h1
  replace h2 := eq_false h2
  replace h3 := eq_false h3
  replace h4 := eq_true h4
  go_enter Try.func8, Try.ntmps8
  go_wp2
  first | go_ret | go_ret2 | go_ret3
  exact ⟨_, none, 0, rfl, Kd.R_nil _ _ _ _ _, Kd.C_nil _ _, Nat.zero_le _, Below.refl _ _⟩
set_option maxHeartbeats 8000000 in
set_option maxRecDepth 100000 in
theorem rpick_c (W0 : World) (A : Option Addr) (c : Nat) (l : List Int) (N K : Nat) (w : World) (hb0 : Below W0.heap.size W0 w) (hC : CI W0 A l) (hc : l.length ≤ c) (h3 : K ≤ N) (hN : N ≤ 1000000) (h4 : K ≤ l.length) (r : List Int) (hr : rpL l K 0 (rangeI N) [] = r) : Calls Try.prog 8 #[.slice A l.length c, .int .i64 (N : Int), .int .i64 (K : Int)] w fun e w' => ∃ v0 A2 c2, e = .returned (.tuple #[v0, .bool true, .slice A2 (l.drop K).length c2]) ∧ RI w' w.heap.size (fun _ => True) v0 r ∧ CI W0 A2 (l.drop K) ∧ (l.drop K).length ≤ c2 ∧ Below w.heap.size w w' := by
  have HCw := Aside0.mk (Kd.C_below hC hb0)
  have HC := Aside0.mk (CI_drop hC (m := K) h4 hc)
  have HL := Aside0.mk (show l.length - K ≤ c - K by omega)
  have HLD := Aside0.mk (show l.length - K = (l.drop K).length by rw [List.length_drop])
  have hs : ∀ w, (Instr.slice 22 (.slice A l.length c) (some (.int .i64 (K : Int))) none none).run Try.prog w = .ok (.slice (dropA A c K) (l.length - K) (c - K)) w := fun w => slD w A l.length c K h4
  have HR := Aside0.mk hr
  have HN := Aside0.mk hN
  have HK := Aside0.mk h3
  have H4 := Aside0.mk h4
  have HB := Aside0.mk (Below.refl w.heap.size w)
  have g1 : ((N : Int) < 0) = False := eq_false (by omega)
  have g2 : ((K : Int) < 0) = False := eq_false (by omega)
  have g3 : ((K : Int) > (N : Int)) = False := eq_false (by omega)
  have g3' : ((N : Int) < (K : Int)) = False := eq_false (by omega)
  have g4 : ((l.length : Int) < (K : Int)) = False := eq_false (by omega)
  clear hb0 hC hc h3 hN h4 hr
  go_enter Try.func8, Try.ntmps8
  go_wp2
  clear g1 g2 g3 g3' g4
  go_loopg [9, 10] N (fun kq v9 v10 w' => ∃ (j : Nat) (rest : List Int), v10 = .int .i64 (j : Int) ∧ Aside0 (j ≤ N) ∧ Aside0 (N - j ≤ kq) ∧ Aside0 (rest = rangeI j) ∧ Aside0 (RI w' w.heap.size (fun _ => True) v9 rest) ∧ Aside0 (Below w.heap.size w w'))
  case atStart => exact ⟨0, [], rfl, ⟨Nat.zero_le _⟩, ⟨by omega⟩, ⟨rfl⟩, ⟨Kd.R_nil _ _ _ _ _⟩, HB⟩
  case round =>
    clear HB
    obtain ⟨j, rest, rfl, HJ, HKQ, HREST, H9, HB⟩ := hrel
    by_cases c1 : (j : Int) < (N : Int)
    · have HIN := Aside0.mk (show j < N by omega)
      have HRS := Aside0.mk (show rest.length = j by rw [HREST.out, rangeI_len])
      have HW := Aside0.mk (show wrap64 ((j : Int) + 1) = ((j + 1 : Nat) : Int) by have := HN.out; unfold wrap64; omega)
      replace c1 := eq_true c1
      go_wp2_with (first | ((with_reducible refine gate_builtin (b := .append) (xs := #[.tmp 36, .tmp 38]) rfl ?_); at_builtin; refine app1 w.heap.size rfl (.tmp 36) (.tmp 38) rfl _ rest (j : Int) (fun _ => True) rfl rfl H9.out (fun _ _ => trivial) (below_size HB.out) (by have := HRS.out; have := HJ.out; have := HN.out; omega) ?_; intro v1 w1 ho hg hat; replace HB := Aside0.mk (below_of HB.out hg (Kd.R_base H9.out) (below_size HB.out)); replace H9 := Aside0.mk ho; clear ho hg hat))
      go_roundg (N - (j + 1))
      case measure => have := HJ.out; have := HKQ.out; have := HIN.out; omega
      case rel => exact ⟨j + 1, _, by first | rfl | rw [HW.out], ⟨by have := HIN.out; omega⟩, ⟨by omega⟩, ⟨by rw [rangeI_succ, HREST.out]⟩, H9, HB⟩
    · obtain rfl : j = N := by have := HJ.out; omega
      replace c1 := eq_false c1
      have HRS := Aside0.mk (show rest.length = j by rw [HREST.out, rangeI_len])
      replace HR := Aside0.mk (show rpL l K 0 rest [] = r by rw [HREST.out]; exact HR.out)
      clear HJ HKQ HREST
      go_wp2
      clear c1
      go_loopg [9, 11, 12] K (fun kq v9 v11 v12 w' => ∃ (i : Nat) (rest out : List Int), v12 = .int .i64 (i : Int) ∧ Aside0 (i ≤ K) ∧ Aside0 (K - i ≤ kq) ∧ Aside0 (rpL l (K - i) i rest out = r) ∧ Aside0 (rest.length = j - i ∧ out.length = i) ∧ Aside0 (RI w' w.heap.size (fun k => True ∧ some k ≠ (v11 : Value).ownBlock) v9 rest) ∧ Aside0 (RI w' w.heap.size (fun k => True ∧ some k ≠ (v9 : Value).ownBlock) v11 out) ∧ Aside0 (Below w.heap.size w w'))
      case atStart => exact ⟨0, rest, [], rfl, ⟨Nat.zero_le _⟩, ⟨by omega⟩, ⟨by simpa using HR.out⟩, ⟨by have := HRS.out; omega, rfl⟩, ⟨RI_nil_apart H9.out⟩, ⟨Kd.R_nil _ _ _ _ _⟩, HB⟩
      case round =>
        clear HB H9 HR HRS
        clear rest
        obtain ⟨i, rest, out, rfl, HJ, HKQ, HP, HLN, H9, H11, HB⟩ := hrel
        by_cases c1 : (i : Int) < (K : Int)
        · have HIN := Aside0.mk (show i < K by omega)
          have hrl : 1 ≤ rest.length := by have := HLN.out; have := HK.out; omega
          obtain ⟨A9, c9, e9⟩ := Kd.R_slice H9.out
          subst e9
          obtain ⟨mm, hmm⟩ : ∃ mm, md (rd l (i : Int)) (rest.length : Int) = mm := ⟨_, rfl⟩
          have hrg := md_range (rd l (i : Int)) (rest.length : Int) (by omega) (by have := HLN.out; have := HN.out; omega)
          rw [hmm] at hrg
          obtain ⟨a, rfl⟩ : ∃ a : Nat, mm = (a : Int) := ⟨mm.toNat, by omega⟩
          have hp := HP.out
          rw [show K - i = (K - (i + 1)) + 1 by omega, rpL, hmm, Int.toNat_natCast] at hp
          obtain ⟨ad9, rfl, hc9⟩ := Kd.at_int (Kd.R_reads' H9.out).2.2 (a : Int) (by omega) (by omega)
          have HC9 := Aside0.mk (show rest.length ≤ c9 from (Kd.R_reads' H9.out).2.1)
          obtain ⟨ad, rfl, hcl⟩ := Kd.at_int (Kd.C_below HCw.out HB.out) (i : Int) (by omega) (by have := H4.out; omega)
          rw [Int.toNat_natCast] at hc9 hcl
          obtain ⟨y, hy⟩ : ∃ y, y = rd rest (a : Int) := ⟨_, rfl⟩
          rw [← hy] at hp hc9
          have HP2 := Aside0.mk hp
          obtain ⟨x, hx⟩ : ∃ x, x = rd l (i : Int) := ⟨_, rfl⟩
          rw [← hx] at hcl hmm
          have HM := Aside0.mk (fun w => mod_ x (rest.length : Int) (a : Int) hmm (by omega) w)
          have HAL := Aside0.mk (show a ≤ rest.length by omega)
          have HALT := Aside0.mk (show a + 1 ≤ rest.length by omega)
          have hs1 : ∀ w, (Instr.slice 22 (.slice (some ad9) rest.length c9) none (some (.int .i64 (a : Int))) none).run Try.prog w = .ok (.slice (some ad9) a c9) w := fun w => slT w _ _ _ a (by have := HC9.out; have := HAL.out; omega)
          have hs2 : ∀ w, (Instr.slice 22 (.slice (some ad9) rest.length c9) (some (.int .i64 ((a + 1 : Nat) : Int))) none none).run Try.prog w = .ok (.slice (dropA (some ad9) c9 (a + 1)) (rest.length - (a + 1)) (c9 - (a + 1))) w := fun w => slD w _ _ _ (a + 1) HALT.out
          have hs3 : ∀ w, (Instr.slice 22 (.slice (some ad9) rest.length c9) (some (.int .i64 ((a : Int) + 1))) none none).run Try.prog w = .ok (.slice (dropA (some ad9) c9 (a + 1)) (rest.length - (a + 1)) (c9 - (a + 1))) w := fun w => slD w _ _ _ (a + 1) HALT.out
          have hwa : wrap64 ((a : Int) + 1) = ((a + 1 : Nat) : Int) := by have := HN.out; have := HLN.out; unfold wrap64; omega
          have HWI := Aside0.mk (show wrap64 ((i : Int) + 1) = ((i + 1 : Nat) : Int) by have := HN.out; have := HK.out; unfold wrap64; omega)
          have p1 : (0 ≤ (i : Int)) = True := eq_true (by omega)
          have p2 : ((i : Int) < (l.length : Int)) = True := eq_true (by have := H4.out; omega)
          have p3 : (0 ≤ (a : Int)) = True := eq_true (by omega)
          have p4 : ((a : Int) < (rest.length : Int)) = True := eq_true (by omega)
          clear hp hy hx hmm hrg hrl HP
          replace c1 := eq_true c1
          go_wp2_with (first | (go_at_call 17; with_reducible refine (HM.out _).mono ?_; rintro e wv ⟨rfl, rfl⟩; clear HM) | ((with_reducible refine gate_builtin (b := .append) (xs := #[.tmp 52, .tmp 57]) rfl ?_); at_builtin; refine app1 w.heap.size rfl (.tmp 52) (.tmp 57) rfl _ out y (fun k => True ∧ some k ≠ (Value.slice (some ad9) rest.length c9).ownBlock) rfl rfl H11.out (ok_fresh H9.out) (below_size HB.out) (by have := HLN.out; have := HJ.out; have := HK.out; have := HN.out; omega) ?_; intro v2 w2 ho hg hat; replace HB := Aside0.mk (below_of HB.out hg (Kd.R_base H11.out) (below_size HB.out)); replace H9 := Aside0.mk (RI_after H9.out hg hat); replace H11 := Aside0.mk ho; clear ho hg hat) | ((with_reducible refine gate_builtin (b := .append) (xs := #[.tmp 59, .tmp 62]) rfl ?_); at_builtin; refine appR w.heap.size rfl (.tmp 59) (.tmp 62) rfl (.slice none 0 0) [] (rest.take a) (some ad9) a c9 (fun k => True ∧ some k ≠ (v2 : Value).ownBlock) rfl rfl (Kd.R_nil _ _ _ _ _) (CI_take (Kd.R_reads' H9.out).2.2 HAL.out) (ok_fresh H11.out) (below_size HB.out) (by have := HLN.out; have := HN.out; have := HAL.out; simp; omega) ?_; intro v3 w3 ho hg hat; replace HB := Aside0.mk (below_of HB.out hg (fun b e => by cases e) (below_size HB.out)); replace H9 := Aside0.mk (Kd.R_grown H9.out hg (fun _ _ e => by cases e)); replace H11 := Aside0.mk (RI_after (RI_nil_apart H11.out) hg hat); rw [List.nil_append] at ho; have H14 := Aside0.mk ho; clear ho hg hat) | ((with_reducible refine gate_builtin (b := .append) (xs := #[.tmp 64, .tmp 68]) rfl ?_); at_builtin; refine appR w.heap.size rfl (.tmp 64) (.tmp 68) rfl v3 (rest.take a) (rest.drop (a + 1)) (dropA (some ad9) c9 (a + 1)) (rest.length - (a + 1)) (c9 - (a + 1)) (fun k => True ∧ some k ≠ (v2 : Value).ownBlock) rfl rfl H14.out (CI_drop (Kd.R_reads' H9.out).2.2 HALT.out HC9.out) (ok_fresh H11.out) (below_size HB.out) (by have := HLN.out; have := HN.out; have := HAL.out; rw [List.length_take]; omega) ?_; intro v4 w4 ho hg hat; replace HB := Aside0.mk (below_of HB.out hg (Kd.R_base H14.out) (below_size HB.out)); replace H11 := Aside0.mk (RI_after H11.out hg hat); replace H9 := Aside0.mk ho; clear ho hg hat H14))
          go_roundg (K - (i + 1))
          case measure => have := HJ.out; have := HKQ.out; have := HIN.out; omega
          case rel => exact ⟨i + 1, _, _, by first | rfl | rw [HWI.out], ⟨by have := HIN.out; omega⟩, ⟨by omega⟩, ⟨HP2.out⟩, ⟨by have := HLN.out; have := HALT.out; rw [List.length_append, List.length_take, List.length_drop, List.length_append, List.length_cons, List.length_nil]; omega⟩, H9, H11, HB⟩
        · obtain rfl : i = K := by have := HJ.out; omega
          replace c1 := eq_false c1
          have hp := HP.out
          rw [Nat.sub_self, rpL] at hp
          subst hp
          obtain ⟨A9, c9, e9⟩ := Kd.R_slice H9.out
          subst e9
          go_wp2
          go_quiet (fail)
          go_wp2
          first | go_ret | go_ret2 | go_ret3
          exact ⟨_, dropA A c i, c - i, by (rw [← HLD.out]; rfl), Kd.R_mono (Kd.R_drewN H11.out _) (fun _ _ => trivial), by rw [HLD.out] at HC; exact HC.out, by rw [← HLD.out]; exact HL.out, pw_below_drewN HB.out _⟩
end Go.Proofs.Ytabhikacghkcgaa.Draw5
