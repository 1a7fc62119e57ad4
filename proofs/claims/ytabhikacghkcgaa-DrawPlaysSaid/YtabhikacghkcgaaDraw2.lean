/- The draws of a script, in memory: what draw.pick and Pick do, for every Draws and every two numbers (fewer than 1,000,000 picked). -/
import Derived.Test.YtabhikacghkcgaaDraw1
namespace Go.Proofs.Ytabhikacghkcgaa.Draw2
open Go.RowKit Go.Proofs.YtabhikacghkcgaaW.PrintWords Go.Proofs.YtabhikacghkcgaaW.PrintLast Go.Proofs.YtabhikacghkcgaaW.PrintMore Go.Proofs.Ytabhikacghkcgaa.Ints Go.Proofs.Ytabhikacghkcgaa.Draw1
attribute [local go_sem] max2_int min2_int max_two min_two max_three min_three max_four min_four
set_option linter.unusedVariables false
set_option linter.unusedSimpArgs false
/-- The number with as many lesser ones that are not picked, and its place among the picked. -/
def bump : List Int → Int → Int × Nat
  | [], x => (x, 0)
  | p :: t, x => if p ≤ x then ((bump t (wrap64 (x + 1))).1, (bump t (wrap64 (x + 1))).2 + 1) else (x, 0)
theorem bump_le (t : List Int) : ∀ x, (bump t x).2 ≤ t.length := by
  induction t with
  | nil => intro x; simp [bump]
  | cons p t ih =>
    intro x
    rw [bump]
    split
    · have := ih (wrap64 (x + 1))
      simpa using this
    · simp
def insP (pk : List Int) (q : Int × Nat) : List Int := pk.take q.2 ++ [q.1] ++ pk.drop q.2
def pickL (l : List Int) (n : Int) : Nat → Int → Nat → List Int → List Int → List Int × Bool × Nat
  | 0, i, at_, out, pk => (out, true, at_)
  | d + 1, i, at_, out, pk => if (nxt l at_ (wrap64 (n - i))).2.1 = true then pickL l n d (i + 1) (nxt l at_ (wrap64 (n - i))).2.2 (out ++ [(bump pk (nxt l at_ (wrap64 (n - i))).1).1]) (insP pk (bump pk (nxt l at_ (wrap64 (n - i))).1)) else ([], false, (nxt l at_ (wrap64 (n - i))).2.2)
theorem RI_g {w w1 : World} {base g : Nat} {ok : Nat → Prop} {v : Value} {xs : List Int} (h : RI w base ok v xs) (hg : w.grownBy w1 (some g)) (hlt : g < base) : RI w1 base ok v xs :=
  Kd.R_mono (Kd.R_grown (Kd.R_bound h) hg (fun k hk e => by injection e with e; have := hk.2.1; omega)) (fun k hk => hk.1)
theorem grown_new {w w1 w2 : World} {g : Nat} {row : Option Nat} (h : w.grownBy w1 (some g)) (k : w1.grownBy w2 row) (hr : ∀ b, row = some b → w.heap.size ≤ b) : w.grownBy w2 (some g) :=
  ⟨k.os.trans h.os, k.tape.trans h.tape, k.output.trans h.output, Nat.le_trans h.size k.size, fun i hi he => (k.block i (Nat.lt_of_lt_of_le hi h.size) (fun e => by have := hr i e.symm; omega)).trans (h.block i hi he)⟩
theorem grown_below {w w1 w2 : World} {g : Nat} (h : w.grownBy w1 (some g)) (k : Below w1.heap.size w1 w2) : w.grownBy w2 (some g) := grown_new h (grown_of_below k none) (fun b e => by cases e)
theorem bump_step {pk : List Int} {a : Nat} (h : a < pk.length) (y : Int) : bump (pk.drop a) y = if rd pk (a : Int) ≤ y then ((bump (pk.drop (a + 1)) (wrap64 (y + 1))).1, (bump (pk.drop (a + 1)) (wrap64 (y + 1))).2 + 1) else (y, 0) := by
  rw [List.drop_eq_getElem_cons h, bump]
  simp [rd, h]
theorem meas {a N : Nat} {z : Int} (h : a < N) (hz : z = ((a + 1 : Nat) : Int)) : N - (intOf (Value.int .i64 z)).toNat < N - (intOf (Value.int .i64 (a : Int))).toNat := by
  subst hz
  simp only [intOf, Int.toNat_natCast]
  omega
theorem RI_own {w : World} {base : Nat} {ok : Nat → Prop} {v : Value} {xs : List Int} (h : w.ownsRow base 3 1 v xs.length (es xs)) (hok : ∀ k, v.ownBlock = some k → ok k) : RI w base ok v xs := Kd.R_of_own h hok
theorem RI_after {W w1 : World} {base : Nat} {u v v1 : Value} {xs : List Int} (h : RI W base (fun k => True ∧ some k ≠ v.ownBlock) u xs) (hg : W.grownBy w1 v.ownBlock) (hat : v1.ownBlock = v.ownBlock ∨ ∃ b, v1.ownBlock = some b ∧ W.heap.size ≤ b) : RI w1 base (fun k => True ∧ some k ≠ v1.ownBlock) u xs := Kd.R_after (ok := fun _ => True) h hg hat
theorem ins_ok {w : World} {base : Nat} {v v1 v8 : Value} {xs out : List Int} {ok8 : Nat → Prop} (h9 : RI w base (fun k => True ∧ some k ≠ v8.ownBlock) v xs) (h8 : RI w base ok8 v8 out) (hat : v1.ownBlock = v.ownBlock ∨ ∃ b, v1.ownBlock = some b ∧ w.heap.size ≤ b) : ∀ k, v1.ownBlock = some k → True ∧ some k ≠ v8.ownBlock := by
  intro k hk
  rcases hat with hat | ⟨b, hb, hle⟩
  · rw [hat] at hk
    exact h9.1 k hk
  · rw [hk] at hb
    injection hb with hb
    exact ⟨trivial, fun e => by have := Kd.R_lt h8 k e.symm; omega⟩
theorem ins1 (base : Nat) (xs : List Int) (y : Int) (i : Nat) (v : Value) (vb : Nat) (w : World) (ho : w.ownsRow base 3 1 v xs.length (es xs)) (hi : i ≤ xs.length) (hb : (xs.length + 1) * 8 ≤ 140737488355328) (hvb : w.heap[vb]? = some (.cells #[.int .i64 y] 3 (0, 0))) (hne : v.ownBlock ≠ some vb) (hbase : base ≤ w.heap.size) :
    Calls Try.prog 19 #[v, .int .i64 (i : Int), .slice (some ⟨vb, 0, none⟩) 1 1] w fun e w' => ∃ v', e = .returned v' ∧ w'.ownsRow base 3 1 v' (insP xs (y, i)).length (es (insP xs (y, i))) ∧ w.grownBy w' v.ownBlock ∧ (v'.ownBlock = v.ownBlock ∨ ∃ b, v'.ownBlock = some b ∧ w.heap.size ≤ b) :=
  ins base xs [y] i v vb 1 #[.int .i64 y] w ho hi (by simp) hb hvb rfl hne hbase
theorem exitE {pk : List Int} {y : Int} {a : Nat} {q : Int × Nat} (hbs : bump (pk.drop a) y = (y, 0)) (h1 : (bump (pk.drop a) y).1 = q.1 ∧ a + (bump (pk.drop a) y).2 = q.2) : (y, a) = q := by
  rw [hbs] at h1
  exact Prod.ext h1.1 (by simpa using h1.2)
theorem exitF {l out pk : List Int} {n i : Int} {d r3 : Nat} {rr : Int × Bool × Nat} {q : Int × Nat} {r : List Int × Bool × Nat} (h2 : rr.2.2 = r3) (h3 : pickL l n d i r3 (out ++ [q.1]) (insP pk q) = r) : pickL l n d i rr.2.2 (out ++ [q.1]) (insP pk q) = r := by
  rw [h2]
  exact h3
set_option maxHeartbeats 8000000 in
set_option maxRecDepth 100000 in
theorem pick_ (base top g : Nat) (A : Option Addr) (c : Nat) (l : List Int) (at_ : Nat) (n : Int) (d : Nat) (w : World) (hd : IsD w base top g A c l at_) (htop : top ≤ w.heap.size) (hdb : d ≤ 1000000) (r : List Int × Bool × Nat) (hr : pickL l n d 0 at_ [] [] = r) :
    Calls Try.prog 16 #[.func (.func 11) #[.pointer (some ⟨g, 0, none⟩)] #[], .int .i64 n, .int .i64 (d : Int)] w fun e w' => ∃ v0_ : Value, e = .returned (.tuple #[v0_, .bool r.2.1]) ∧ RI w' w.heap.size (fun _ => True) v0_ r.1 ∧ IsD w' base top g A c l r.2.2 ∧ w.grownBy w' (some g) := by
  have HD0 := Aside0.mk hd
  have HTOP := Aside0.mk htop
  have HDB := Aside0.mk hdb
  have HR := Aside0.mk hr
  have HGB := Aside0.mk (show g < w.heap.size from hd.2.2.1)
  clear hd htop hdb hr
  go_enter Try.func16, Try.ntmps16
  go_wp2
  go_loopg [8, 9, 15] d (fun kq v8 v9 v15 w' => ∃ (j at' : Nat) (out pk : List Int), v15 = .int .i64 (j : Int) ∧ Aside0 (j ≤ d) ∧ Aside0 (d - j ≤ kq) ∧ Aside0 (pickL l n (d - j) (j : Int) at' out pk = r) ∧ Aside0 (out.length = j ∧ pk.length = j) ∧ Aside0 (RI w' w.heap.size (fun k => True ∧ some k ≠ (v9 : Value).ownBlock) v8 out) ∧ Aside0 (RI w' w.heap.size (fun k => True ∧ some k ≠ (v8 : Value).ownBlock) v9 pk) ∧ Aside0 (IsD w' base top g A c l at') ∧ Aside0 (w.grownBy w' (some g)))
  case atStart => exact ⟨0, at_, [], [], rfl, ⟨Nat.zero_le _⟩, ⟨by omega⟩, ⟨by simpa using HR.out⟩, ⟨rfl, rfl⟩, ⟨Kd.R_nil _ _ _ _ _⟩, ⟨Kd.R_nil _ _ _ _ _⟩, HD0, ⟨⟨rfl, rfl, rfl, Nat.le_refl _, fun _ _ _ => rfl⟩⟩⟩
  case round =>
    clear HD0 HR
    obtain ⟨j, at', out, pk, rfl, HJ, HKQ, HP, HLN, H8, H9, HD, HG⟩ := hrel
    obtain ⟨A8, c8, e8⟩ := Kd.R_slice H8.out
    subst e8
    obtain ⟨A9, c9, e9⟩ := Kd.R_slice H9.out
    subst e9
    have hm9 := Kd.C_max (Kd.R_reads' H9.out).2.2
    by_cases c1 : (j : Int) < (d : Int)
    · have HIN := Aside0.mk (show j < d by omega)
      have hp := HP.out
      rw [show d - j = (d - (j + 1)) + 1 by omega, pickL] at hp
      obtain ⟨rr, hrr⟩ : ∃ rr, nxt l at' (wrap64 (n - (j : Int))) = rr := ⟨_, rfl⟩
      rw [hrr] at hp
      have HRR := Aside0.mk hrr
      have HW2 := Aside0.mk (show wrap64 ((j : Int) + 1) = ((j + 1 : Nat) : Int) by have := HDB.out; unfold wrap64; omega)
      clear hrr HP
      obtain ⟨r1, r2, r3⟩ := rr
      replace c1 := eq_true c1
      cases r2 with
      | false =>
        rw [if_neg (by simp)] at hp
        subst hp
        obtain ⟨rr, hrr⟩ : ∃ rr, rr = (r1, false, r3) := ⟨_, rfl⟩
        rw [← hrr] at HRR
        have e21 : rr.2.1 = false := by rw [hrr]
        have e22 : rr.2.2 = r3 := by rw [hrr]
        clear hrr
        go_wp2_with ((go_at_call 11; with_reducible refine (next_ base top g A c l at' (wrap64 (n - (j : Int))) _ HD.out rr HRR.out).mono ?_; rintro e wv ⟨rfl, hd', hg'⟩; replace HD := Aside0.mk hd'; replace H8 := Aside0.mk (RI_g H8.out hg' HGB.out); replace H9 := Aside0.mk (RI_g H9.out hg' HGB.out); replace HG := Aside0.mk (grown_trans HG.out hg'); clear hd' hg'))
        first | go_ret | go_ret2
        exact ⟨_, rfl, Kd.R_nil _ _ _ _ _, by first | exact HD.out | (rw [← e22]; exact HD.out), HG.out⟩
      | true =>
        rw [if_pos rfl] at hp
        obtain ⟨q, hq⟩ : ∃ q, bump pk r1 = q := ⟨_, rfl⟩
        have hql : q.2 ≤ pk.length := hq ▸ bump_le pk r1
        simp only [hq] at hp
        have HP2 := Aside0.mk hp
        clear hp
        obtain ⟨rr, hrr⟩ : ∃ rr, rr = (r1, true, r3) := ⟨_, rfl⟩
        rw [← hrr] at HRR
        have e21 : rr.2.1 = true := by rw [hrr]
        have e20 : rr.1 = r1 := by rw [hrr]
        have HE22 := Aside0.mk (show rr.2.2 = r3 by rw [hrr])
        clear hrr
        have HQ := Aside0.mk hq
        have HQL := Aside0.mk hql
        clear hq hql
        have HM9 := Aside0.mk hm9
        clear hm9
        have HNXT := Aside0.mk (exitF HE22.out HP2.out)
        go_upto_block 2 with ((go_at_call 11; with_reducible refine (next_ base top g A c l at' (wrap64 (n - (j : Int))) _ HD.out rr HRR.out).mono ?_; rintro e wv ⟨rfl, hd', hg'⟩; replace HD := Aside0.mk hd'; replace H8 := Aside0.mk (RI_g H8.out hg' HGB.out); replace H9 := Aside0.mk (RI_g H9.out hg' HGB.out); replace HG := Aside0.mk (grown_trans HG.out hg'); clear hd' hg'))
        go_cut [11, 13] (fun v11 v13 wc => v11 = .int .i64 q.1 ∧ v13 = .int .i64 (q.2 : Int) ∧ Aside0 (RI wc w.heap.size (fun k => True ∧ some k ≠ (Value.slice A9 pk.length c9).ownBlock) (.slice A8 out.length c8) out) ∧ Aside0 (RI wc w.heap.size (fun k => True ∧ some k ≠ (Value.slice A8 out.length c8).ownBlock) (.slice A9 pk.length c9) pk) ∧ Aside0 (IsD wc base top g A c l rr.2.2) ∧ Aside0 (w.grownBy wc (some g)))
        case first =>
          clear HNXT HP2
          go_wp2
          go_loop [11, 13] (fun v11 v13 => ∃ (a : Nat) (y : Int), v13 = .int .i64 (a : Int) ∧ v11 = .int .i64 y ∧ Aside0 (a ≤ pk.length) ∧ Aside0 ((bump (pk.drop a) y).1 = q.1 ∧ a + (bump (pk.drop a) y).2 = q.2)) (fun _ v13 => pk.length - (intOf v13).toNat)
          case atStart => exact ⟨0, r1, rfl, by first | rfl | (simp [e20]; done), ⟨Nat.zero_le _⟩, ⟨by have := HQ.out; simp [this]⟩⟩
          case round =>
            obtain ⟨a, y, rfl, rfl, HA, HBU⟩ := hrel
            by_cases ca : (a : Int) < (pk.length : Int)
            · have hbs := bump_step (pk := pk) (a := a) (by omega) y
              obtain ⟨ad, rfl, hcl⟩ := Kd.at_int (Kd.R_reads' H9.out).2.2 (a : Int) (by omega) ca
              rw [Int.toNat_natCast] at hcl
              have pa : (0 ≤ (a : Int)) = True := eq_true (by omega)
              obtain ⟨p, hp⟩ : ∃ p, p = rd pk (a : Int) := ⟨_, rfl⟩
              rw [← hp] at hcl hbs
              have HLTA := Aside0.mk (show a < pk.length by omega)
              have HWA := Aside0.mk (show wrap64 ((a : Int) + 1) = ((a + 1 : Nat) : Int) by have := HM9.out; unfold wrap64; omega)
              clear hp
              replace ca := eq_true ca
              by_cases cp : p ≤ y
              · rw [if_pos cp] at hbs
                have HBS := Aside0.mk hbs
                clear hbs
                replace cp := eq_true cp
                go_wp2
                go_round
                case rel => exact ⟨a + 1, wrap64 (y + 1), by first | rfl | rw [HWA.out] | (simp [HWA.out]; done), rfl, ⟨HLTA.out⟩, ⟨by have h1 := HBU.out; have h2 := HBS.out; rw [h2] at h1; exact ⟨h1.1, by omega⟩⟩⟩
                case measure => exact meas HLTA.out HWA.out
              · rw [if_neg cp] at hbs
                have HEQ := Aside0.mk (exitE hbs HBU.out)
                clear hbs
                replace cp := eq_false cp
                go_wp2
                go_meet
                case rel => exact ⟨by rw [← HEQ.out], by rw [← HEQ.out], H8, H9, HD, HG⟩
            · have HEQ := Aside0.mk (exitE (show bump (pk.drop a) y = (y, 0) by rw [List.drop_of_length_le (by omega)]; rfl) HBU.out)
              replace ca := eq_false ca
              go_wp2
              go_meet
              case rel => exact ⟨by rw [← HEQ.out], by rw [← HEQ.out], H8, H9, HD, HG⟩
        case rest =>
          clear HD H8 H9 HG e20 e21 HRR
          obtain ⟨rfl, rfl, H8, H9, HD, HG⟩ := hcut
          obtain ⟨y, a⟩ := q
          have HA := Aside0.mk (show a ≤ pk.length from HQL.out)
          clear HQ HQL HP2 HE22
          replace HNXT := Aside0.mk (show pickL l n (d - (j + 1)) ((j : Int) + 1) rr.2.2 (out ++ [y]) (insP pk (y, a)) = r from HNXT.out)
          skip
          go_wp2_with (first | ((with_reducible refine gate_dst (N := 47) rfl ?_); refine lit ?hg (N := 47) ?hd (cs := #[.int .i64 y]) (e := 3) (n := 1) ?hr ?_; (case hd => rfl); (case hg => rfl); (case hr => first | (go_simp; done) | (go_simp; rfl)); intro gl wv hgl hl hb; have HL := Aside0.mk hl; have HLS := Aside0.mk (show ∀ k, (Value.slice A9 pk.length c9).ownBlock = some k → k < gl from fun k hk => by rw [hgl]; exact Kd.R_lt H9.out k hk); have HLB := Aside0.mk (show w.heap.size ≤ wv.heap.size from Nat.le_trans HG.out.size hb.size); replace HD := Aside0.mk (HD.out.below hb); replace H8 := Aside0.mk (Kd.R_below H8.out hb); replace H9 := Aside0.mk (Kd.R_below H9.out hb); replace HG := Aside0.mk (grown_below HG.out hb); clear hgl hl hb) | (go_at_call 19; with_reducible refine (ins1 w.heap.size pk y a (.slice A9 pk.length c9) gl _ (own_RI H9.out) (by have := HA.out; omega) (by have := HLN.out; have := HDB.out; have := HJ.out; omega) HL.out (fun e => absurd (HLS.out gl e) (Nat.lt_irrefl _)) HLB.out).mono ?_; rintro e wv ⟨v1, rfl, ho, hg', hat⟩; have hrow : ∀ b, (Value.slice A9 pk.length c9).ownBlock = some b → w.heap.size ≤ b := Kd.R_base H9.out; have n8 := Aside0.mk (RI_after H8.out hg' hat); have n9 := Aside0.mk (RI_own ho (ins_ok H9.out H8.out hat)); replace HD := Aside0.mk (HD.out.grown hg' (fun k e => ⟨Nat.le_trans HTOP.out (hrow k e), fun e2 => by have := hrow k e; have := HGB.out; omega⟩)); replace HG := Aside0.mk (grown_new HG.out hg' hrow); replace H8 := n8; replace H9 := n9; clear ho hg' hat hrow n8 n9 HL HLS HLB) | ((with_reducible refine gate_builtin (b := .append) (xs := #[.tmp 49, .tmp 51]) rfl ?_); at_builtin; refine Kd.R_append (Kd.int .i64) (w0 := wv) w.heap.size rfl (.tmp 49) (.tmp 51) 22 3 (.int .i64 0) 8 rfl Try.underlying22 info3 rfl (by decide) (by omega) (.slice A8 out.length c8) out y [.int .i64 y] (fun k => True ∧ some k ≠ (v1 : Value).ownBlock) (fun _ => False) rfl rfl ?aP (fun _ hk => hk.elim) ?aF ?aO ?aB ?aS ?aL ?_; (case aP => exact rfl); (case aB => exact Below.refl _ _); (case aF => exact fun k hk => ⟨trivial, fun e => by have := Kd.R_lt H9.out k e.symm; omega⟩); (case aO => exact H8.out); (case aS => exact HG.out.size); (case aL => have := HLN.out; have := HDB.out; have := HJ.out; omega); intro v2 w2 ho hb hg' hat; have hrow : ∀ b, (Value.slice A8 out.length c8).ownBlock = some b → w.heap.size ≤ b := Kd.R_base H8.out; replace H9 := Aside0.mk (RI_after H9.out hg' hat); replace HD := Aside0.mk (HD.out.grown hg' (fun k e => ⟨Nat.le_trans HTOP.out (hrow k e), fun e2 => by have := hrow k e; have := HGB.out; omega⟩)); replace HG := Aside0.mk (grown_new HG.out hg' hrow); replace H8 := Aside0.mk ho; clear ho hb hg' hat hrow))
          go_roundg (d - (j + 1))
          case measure => have := HJ.out; have := HKQ.out; have := HIN.out; omega
          case rel => exact ⟨j + 1, rr.2.2, out ++ [y], insP pk (y, a), by first | rfl | rw [HW2.out], ⟨by have := HIN.out; omega⟩, ⟨by omega⟩, ⟨by rw [show ((j + 1 : Nat) : Int) = (j : Int) + 1 by omega]; exact HNXT.out⟩, ⟨by have := HLN.out; have := HA.out; simp [insP]; omega⟩, H8, by first | exact H9 | (have := H9.out; exact ⟨this⟩), HD, HG⟩
    · obtain rfl : j = d := by have := HJ.out; omega
      replace c1 := eq_false c1
      have hp := HP.out
      rw [Nat.sub_self, pickL] at hp
      subst hp
      go_wp2
      first | go_ret | go_ret2
      exact ⟨_, rfl, Kd.R_mono H8.out (fun _ _ => trivial), HD.out, HG.out⟩
end Go.Proofs.Ytabhikacghkcgaa.Draw2
