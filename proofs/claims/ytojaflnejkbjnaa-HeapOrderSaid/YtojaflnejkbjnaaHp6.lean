/- container/heap's Push and Pop, and the program's Heap. -/
import Derived.Test.YtojaflnejkbjnaaHp5
namespace Go.Proofs.Ytojaflnejkbjnaa.Hp6
open Go.RowKit Go.Proofs.YtojaflnejkbjnaaW.PrintWords Go.Proofs.YtojaflnejkbjnaaW.PrintLast Go.Proofs.YtojaflnejkbjnaaW.PrintMore Go.Proofs.Ytojaflnejkbjnaa.Hp1 Go.Proofs.Ytojaflnejkbjnaa.Hp2 Go.Proofs.Ytojaflnejkbjnaa.Hp3 Go.Proofs.Ytojaflnejkbjnaa.Hp4 Go.Proofs.Ytojaflnejkbjnaa.Hp5
attribute [local go_sem] max2_int min2_int max_two min_two max_three min_three max_four min_four
set_option linter.unusedVariables false
set_option linter.unusedSimpArgs false
attribute [local go_sem] na57_Len me57_Len na184_Len me184_Len na57_Less me57_Less na184_Less me184_Less na57_Swap me57_Swap na184_Swap me184_Swap na57_Push me57_Push na184_Push me184_Push na57_Pop me57_Pop na184_Pop me184_Pop
def pushL (xs : List It) (p : It) : List It := upL (xs ++ [p]) xs.length
def popL (xs : List It) : List It := (dnL (xs.length - 1) (swp xs 0 (xs.length - 1)) 0).take (xs.length - 1)
theorem pushL_len (xs : List It) (p : It) : (pushL xs p).length = xs.length + 1 := by
  unfold pushL
  rw [upL_len]
  simp
theorem popL_len (xs : List It) : (popL xs).length = xs.length - 1 := by
  unfold popL
  rw [List.length_take, dnL_len, swp_len]
  omega
theorem swap0_ (base b : Nat) (A : Option Addr) (c n : Nat) (xs : List It) (k : Nat) (hk : k < xs.length) (w : World) (h : IsH w base b (.slice A n c) xs) : Calls Try.prog 48 #[.pointer (some ⟨b, 0, none⟩), .int .i64 0, .int .i64 (k : Int)] w fun e w' => e = .returned (.tuple #[]) ∧ IsH w' base b (.slice A n c) (swp xs 0 k) ∧ HK w w' b (.slice A n c) :=
  swap_ base b A c n xs 0 k (by omega) hk w h
theorem down0_ (base b : Nat) (A : Option Addr) (c n l : Nat) (xs : List It) (hl0 : l = xs.length) (hn : n ≤ xs.length) (hl : xs.length ≤ 1000001) (w : World) (h : IsH w base b (.slice A l c) xs) : Calls Try.prog 24 #[.iface 51 (.pointer (some ⟨b, 0, none⟩)), .int .i64 0, .int .i64 (n : Int)] w fun e w' => ∃ q : Bool, e = .returned (.bool q) ∧ IsH w' base b (.slice A l c) (dnL n xs 0) ∧ HK w w' b (.slice A l c) := by
  subst hl0
  exact down_ base b A c n xs 0 hn (Nat.zero_le _) hl w h
set_option maxHeartbeats 8000000 in
set_option maxRecDepth 100000 in
theorem cpush_ (base b : Nat) (v : Value) (xs : List It) (p0 p1 p2 : Int) (hl : xs.length ≤ 1000000) (w : World) (h : IsH w base b v xs) : Calls Try.prog 21 #[.iface 51 (.pointer (some ⟨b, 0, none⟩)), .iface 33 (.agg #[.int .i64 p0, .int .i64 p1, .int .i64 p2])] w fun e w' => e = .returned (.tuple #[]) ∧ Goes w w' base b v (pushL xs (p0, p1, p2)) := by
  unfold pushL
  obtain ⟨ys, hys⟩ : ∃ ys, xs ++ [(p0, p1, p2)] = ys := ⟨_, rfl⟩
  rw [hys]
  have hyl : ys.length = xs.length + 1 := by rw [← hys]; simp
  have HYS := Aside0.mk hys
  have HYL := Aside0.mk hyl
  have HL := Aside0.mk hl
  have H0 := Aside0.mk h
  have hw1 : wrap64 ((ys.length : Int) - 1) = (xs.length : Int) := by unfold wrap64; omega
  have hw2 : IntKind.i64.wrap ((ys.length : Int) - 1) = (xs.length : Int) := by rw [i64_w]; exact hw1
  clear h hl hys hyl
  go_enter Try.func21, Try.ntmps21
  go_wp2_with (first | (go_at_call 47; (with_reducible refine (push_ base b v xs p0 p1 p2 HL.out _ H0.out).mono ?_); rintro e wv ⟨rfl, hg⟩; rw [HYS.out] at hg; obtain ⟨v1, hi, hk, ha⟩ := hg; obtain ⟨A1, c1, e1⟩ := Kd.R_slice hi.2.2; subst e1; have HH := Aside0.mk hi; have HG := Aside0.mk hk; have HT := Aside0.mk ha; clear hi hk ha) | (go_at_call 19; (with_reducible refine (len_ base b A1 c1 ys.length ys _ HH.out).mono ?_); rintro e wv ⟨rfl, hb⟩; replace HG := Aside0.mk (HG.out.trans (HK.of_below hb b _) HT.out); replace HH := Aside0.mk (Hp2.IsH.step HH.out hb); clear hb) | (go_at_call 27; (with_reducible refine (up_ base b A1 c1 ys xs.length (by have := HYL.out; omega) (by have := HYL.out; have := HL.out; omega) _ HH.out).mono ?_); rintro e wv ⟨rfl, hi, hk⟩; replace HH := Aside0.mk hi; replace HG := Aside0.mk (HG.out.trans hk HT.out); clear hi hk))
  (try refine bodyPost_end (results_none rfl _ _ _) rfl ?_)
  exact ⟨rfl, _, HH.out, HG.out, HT.out⟩
theorem cat1 {zs : List It} {m : Nat} (h : zs.length = m + 1) : ∃ p : It, zs = zs.take m ++ [p] := by
  refine ⟨zs[m]'(by omega), ?_⟩
  have h2 := List.take_succ_eq_append_getElem (l := zs) (i := m) (by omega)
  rw [← h2, List.take_of_length_le (by omega)]
set_option maxHeartbeats 8000000 in
set_option maxRecDepth 100000 in
theorem cpop_ (base b : Nat) (v : Value) (xs : List It) (hp : 0 < xs.length) (hl : xs.length ≤ 1000000) (w : World) (h : IsH w base b v xs) : Calls Try.prog 22 #[.iface 51 (.pointer (some ⟨b, 0, none⟩))] w fun e w' => ∃ u, e = .returned u ∧ Goes w w' base b v (popL xs) := by
  unfold popL
  obtain ⟨A, c, rfl⟩ := Kd.R_slice h.2.2
  obtain ⟨m, hm⟩ : ∃ m, xs.length = m + 1 := ⟨xs.length - 1, by omega⟩
  rw [show xs.length - 1 = m by omega]
  obtain ⟨zs, hzs⟩ : ∃ zs, dnL m (swp xs 0 m) 0 = zs := ⟨_, rfl⟩
  have hzl : zs.length = m + 1 := by rw [← hzs, dnL_len, swp_len, hm]
  obtain ⟨ys, hys⟩ : ∃ ys, zs.take m = ys := ⟨_, rfl⟩
  obtain ⟨⟨p0, p1, p2⟩, hzp⟩ := cat1 hzl
  have hyl : ys.length = m := by rw [← hys, List.length_take, hzl]; omega
  rw [hzs, hys]
  rw [hys] at hzp
  have HZS := Aside0.mk (hzs.trans hzp)
  have HYL := Aside0.mk hyl
  have HM := Aside0.mk hm
  have HL := Aside0.mk hl
  have HH := Aside0.mk h
  have HG := Aside0.mk (HK.refl w b (.slice A xs.length c))
  have HT := Aside0.mk (At.refl w (.slice A xs.length c))
  have hw1 : wrap64 ((xs.length : Int) - 1) = (m : Int) := by unfold wrap64; omega
  have hw2 : IntKind.i64.wrap ((xs.length : Int) - 1) = (m : Int) := by rw [i64_w]; exact hw1
  clear h hl hys hyl hm hzl hzs hzp hp
  go_enter Try.func22, Try.ntmps22
  go_wp2_with (first | (go_at_call 19; (with_reducible refine (len_ base b A c xs.length xs _ HH.out).mono ?_); rintro e wv ⟨rfl, hb⟩; replace HG := Aside0.mk (HG.out.trans (HK.of_below hb b _) HT.out); replace HH := Aside0.mk (Hp2.IsH.step HH.out hb); clear hb) | (go_at_call 48; (with_reducible refine (swap0_ base b A c xs.length xs m (by have := HM.out; omega) _ HH.out).mono ?_); rintro e wv ⟨rfl, hi, hk⟩; replace HH := Aside0.mk hi; replace HG := Aside0.mk (HG.out.trans hk HT.out); clear hi hk) | (go_at_call 24; (with_reducible refine (down0_ base b A c m xs.length (swp xs 0 m) (swp_len _ _ _).symm (by have := HM.out; have := swp_len xs 0 m; omega) (by have := HL.out; have := swp_len xs 0 m; omega) _ HH.out).mono ?_); rintro e wv ⟨qb, rfl, hi, hk⟩; rw [HZS.out] at hi; replace HH := Aside0.mk hi; replace HG := Aside0.mk (HG.out.trans hk HT.out); clear hi hk) | (go_at_call 46; (with_reducible refine (pop_ base b _ ys p0 p1 p2 (by have := HYL.out; have := HM.out; have := HL.out; omega) _ HH.out).mono ?_); rintro e wv ⟨rfl, hg⟩; obtain ⟨v1, hi, hk, ha⟩ := hg; have HH2 := Aside0.mk hi; replace HT := Aside0.mk (At.trans HG.out HT.out ha); replace HG := Aside0.mk (HG.out.trans hk (At.refl _ _)); clear hi hk ha))
  first | go_ret | go_ret2
  exact ⟨_, rfl, _, HH2.out, HG.out, HT.out⟩
set_option maxHeartbeats 8000000 in
set_option maxRecDepth 100000 in
theorem hlen_ (base b : Nat) (v : Value) (xs : List It) (w : World) (h : IsH w base b v xs) : Calls Try.prog 11 #[.pointer (some ⟨b, 0, none⟩)] w fun e w' => e = .returned (.int .i64 (xs.length : Int)) ∧ Below w.heap.size w w' := by
  obtain ⟨A, c, rfl⟩ := Kd.R_slice h.2.2
  have HH := Aside0.mk h
  clear h
  go_enter Try.func11, Try.ntmps11
  go_wp2_with (first | (go_at_call 19; (with_reducible refine (len_ base b A c xs.length xs _ HH.out).mono ?_); rintro e wv ⟨rfl, hb⟩; have HB := Aside0.mk hb; clear hb))
  first | go_ret | go_ret2
  exact ⟨rfl, HB.out⟩
set_option maxHeartbeats 8000000 in
set_option maxRecDepth 100000 in
theorem nlen_ (w : World) : Calls Try.prog 11 #[.pointer none] w fun e w' => e = .returned (.int .i64 0) ∧ Below w.heap.size w w' := by
  go_enter Try.func11, Try.ntmps11
  go_wp2
  first | go_ret | go_ret2
  exact ⟨rfl, Below.refl _ _⟩
end Go.Proofs.Ytojaflnejkbjnaa.Hp6
