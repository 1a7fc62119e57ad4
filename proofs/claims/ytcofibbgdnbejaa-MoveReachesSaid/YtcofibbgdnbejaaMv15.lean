/- Every way in which the same stops can stand on the same trucks is reached by relocations, place by place. -/
import Derived.Test.YtcofibbgdnbejaaMv14
namespace Go.Proofs.Ytcofibbgdnbejaa.Mv15
open Go.RowKit Go.Proofs.Ytcofibbgdnbejaa.Mv1 Go.Proofs.Ytcofibbgdnbejaa.Mv2 Go.Proofs.Ytcofibbgdnbejaa.Mv3 Go.Proofs.Ytcofibbgdnbejaa.Mv5 Go.Proofs.Ytcofibbgdnbejaa.Mv6 Go.Proofs.Ytcofibbgdnbejaa.Mv7 Go.Proofs.Ytcofibbgdnbejaa.Mv8 Go.Proofs.Ytcofibbgdnbejaa.Mv13 Go.Proofs.Ytcofibbgdnbejaa.Mv14
set_option linter.unusedVariables false
set_option linter.unusedSimpArgs false
def sumN (g : Nat → Nat) : Nat → Nat
  | 0 => 0
  | n + 1 => sumN g n + g n
theorem sumN_congr {g h : Nat → Nat} : ∀ n, (∀ a, a < n → g a = h a) → sumN g n = sumN h n
  | 0, _ => rfl
  | n + 1, e => by
    rw [sumN, sumN, sumN_congr n (fun a ha => e a (by omega)), e n (by omega)]
theorem sumN_add (g h : Nat → Nat) : ∀ n, sumN (fun a => g a + h a) n = sumN g n + sumN h n
  | 0 => rfl
  | n + 1 => by
    rw [sumN, sumN, sumN, sumN_add g h n]
    omega
theorem sumN_pos {g : Nat → Nat} : ∀ n, 0 < sumN g n → ∃ a, a < n ∧ 0 < g a
  | 0, h => by simp [sumN] at h
  | n + 1, h => by
    rw [sumN] at h
    by_cases c : 0 < g n
    · exact ⟨n, by omega, c⟩
    · obtain ⟨a, ha, hg⟩ := sumN_pos (g := g) n (by omega)
      exact ⟨a, by omega, hg⟩
theorem sumN_le {g : Nat → Nat} : ∀ n a, a < n → g a ≤ sumN g n
  | 0, a, h => by omega
  | n + 1, a, h => by
    rw [sumN]
    by_cases c : a = n
    · subst c
      omega
    · have := sumN_le (g := g) n a (by omega)
      omega
theorem sumN_mono {g h : Nat → Nat} : ∀ n, (∀ a, a < n → g a ≤ h a) → sumN g n ≤ sumN h n
  | 0, _ => Nat.le_refl _
  | n + 1, e => by
    rw [sumN, sumN]
    have := sumN_mono n (fun a ha => e a (by omega))
    have := e n (by omega)
    omega
theorem sumN_eq {g h : Nat → Nat} : ∀ n, (∀ a, a < n → g a ≤ h a) → sumN h n ≤ sumN g n → ∀ a, a < n → g a = h a
  | 0, _, _, a, ha => by omega
  | n + 1, e, hs, a, ha => by
    rw [sumN, sumN] at hs
    have h1 := sumN_mono n (fun a ha => e a (by omega))
    have h2 := e n (by omega)
    by_cases c : a = n
    · subst c
      omega
    · exact sumN_eq n (fun a ha => e a (by omega)) (by omega) a (by omega)
theorem Sm_sumN (f : List Int → Nat) (rs : List Rt) : Sm f rs = sumN (fun a => f (st rs a)) rs.length := by
  have h : ∀ n, n ≤ rs.length → Sm f (rs.take n) = sumN (fun a => f (st rs a)) n := by
    intro n
    induction n with
    | zero => intro _; simp [Sm, sumN]
    | succ n ih =>
      intro hn
      have e : rs.take (n + 1) = rs.take n ++ [rs[n]] := by rw [List.take_add_one, List.getElem?_eq_getElem (show n < rs.length by omega)]; rfl
      have e2 : (st rs n) = rs[n].2 := by unfold st; simp [List.getD, List.getElem?_eq_getElem (show n < rs.length by omega)]
      rw [sumN, ← ih (by omega), e, e2]
      unfold Sm
      rw [List.map_append, List.sum_append]
      simp only [List.map_cons, List.map_nil, List.sum_cons, List.sum_nil, Nat.add_zero]
  have := h rs.length (Nat.le_refl _)
  rwa [List.take_length] at this
def fr (W : List Rt) (b k a : Nat) : Nat := if a < b then (st W a).length else if a = b then k else 0
structure Inv (W rs : List Rt) (b k : Nat) : Prop where
  len : rs.length = W.length
  trs : ∀ q, tr rs q = tr W q
  cnts : ∀ id, Sm (fun l => l.count id) rs = Sm (fun l => l.count id) W
  pre : ∀ a, a < W.length → fr W b k a ≤ (st W a).length ∧ fr W b k a ≤ (st rs a).length ∧ (st rs a).take (fr W b k a) = (st W a).take (fr W b k a)
theorem fr_at (W : List Rt) (b k : Nat) : fr W b k b = k := by simp [fr]
theorem fr_ne (W : List Rt) (b k k' a : Nat) (h : a ≠ b) : fr W b k a = fr W b k' a := by simp [fr, h]
theorem inv_next {W rs : List Rt} {b : Nat} (h : Inv W rs b (st W b).length) : Inv W rs (b + 1) 0 := by
  have e : ∀ a, fr W (b + 1) 0 a = fr W b (st W b).length a := by
    intro a
    unfold fr
    by_cases c : a = b
    · subst c
      simp
    · by_cases d : a < b
      · rw [if_pos (by omega), if_pos d]
      · rw [if_neg (by omega), if_neg d, if_neg c]
        split <;> rfl
  exact ⟨h.len, h.trs, h.cnts, fun a ha => by rw [e]; exact h.pre a ha⟩
theorem inv_find {W rs : List Rt} {b k : Nat} (h : Inv W rs b k) (hb : b < W.length) (hk : k < (st W b).length) : ∃ a i, a < W.length ∧ fr W b k a ≤ i ∧ i < (st rs a).length ∧ (st rs a).getD i 0 = (st W b).getD k 0 := by
  obtain ⟨id, hid⟩ : ∃ id, id = (st W b).getD k 0 := ⟨_, rfl⟩
  have hc := h.cnts id
  rw [Sm_sumN, Sm_sumN, h.len] at hc
  have sp : ∀ R : List Rt, sumN (fun a => (st R a).count id) W.length = sumN (fun a => ((st R a).take (fr W b k a)).count id) W.length + sumN (fun a => ((st R a).drop (fr W b k a)).count id) W.length := by
    intro R
    rw [← sumN_add]
    refine sumN_congr _ (fun a _ => ?_)
    rw [← List.count_append, List.take_append_drop]
  rw [sp rs, sp W, sumN_congr W.length (g := fun a => ((st rs a).take (fr W b k a)).count id) (h := fun a => ((st W a).take (fr W b k a)).count id) (fun a ha => by rw [(h.pre a ha).2.2])] at hc
  have hp : 0 < sumN (fun a => ((st W a).drop (fr W b k a)).count id) W.length := by
    refine Nat.lt_of_lt_of_le ?_ (sumN_le W.length b hb)
    rw [fr_at, List.count_pos_iff, hid, List.drop_eq_getElem_cons hk]
    exact List.mem_cons.2 (.inl (by simp [hk]))
  obtain ⟨a, ha, hpa⟩ := sumN_pos (g := fun a => ((st rs a).drop (fr W b k a)).count id) W.length (by omega)
  obtain ⟨j, hj, e⟩ := List.getElem_of_mem (List.count_pos_iff.1 hpa)
  rw [List.length_drop] at hj
  rw [List.getElem_drop] at e
  refine ⟨a, fr W b k a + j, ha, by omega, by omega, ?_⟩
  rw [← hid, ← e]
  simp [List.getD, show fr W b k a + j < (st rs a).length by omega]
theorem take_succ_of (x y : List Int) (k : Nat) (hx : k < x.length) (hy : k < y.length) (h : x.take k = y.take k) (e : x.getD k 0 = y.getD k 0) : x.take (k + 1) = y.take (k + 1) := by
  rw [List.take_add_one, List.take_add_one, h]
  simp only [List.getD, List.getElem?_eq_getElem hx, List.getElem?_eq_getElem hy, Option.getD_some] at e ⊢
  rw [e]
theorem inv_keep {W rs : List Rt} {b k : Nat} (h : Inv W rs b k) (hb : b < W.length) (hk : k < (st W b).length) (hr : k < (st rs b).length) (e : (st rs b).getD k 0 = (st W b).getD k 0) : Inv W rs b (k + 1) := by
  refine ⟨h.len, h.trs, h.cnts, fun a ha => ?_⟩
  by_cases c : a = b
  · subst c
    have := h.pre a ha
    rw [fr_at] at this ⊢
    exact ⟨by omega, by omega, take_succ_of _ _ _ hr hk this.2.2 e⟩
  · rw [fr_ne W b (k + 1) k a c]
    exact h.pre a ha
theorem inv_end {W rs : List Rt} (h : Inv W rs W.length 0) : rs = W := by
  refine ext_rt h.len h.trs (fun j hj => ?_)
  have hf : ∀ a, a < W.length → fr W W.length 0 a = (st W a).length := fun a ha => by simp [fr, ha]
  have hl : Sm (fun l => l.length) rs = Sm (fun l => l.length) W := by
    have fl : ∀ (f : List Int → Nat), (∀ x y, f (x ++ y) = f x + f y) → f [] = 0 → ∀ R : List Rt, Sm f R = f ((R.map fun r => r.2).flatten) := by
      intro f ha h0 R
      induction R with
      | nil => simp [Sm, h0]
      | cons r t ih =>
        simp only [Sm, List.map_cons, List.sum_cons, List.flatten_cons] at ih ⊢
        rw [ha, ih]
    have hp : ((rs.map fun r => r.2).flatten).Perm ((W.map fun r => r.2).flatten) := by
      rw [List.perm_iff_count]
      intro id
      have := h.cnts id
      rw [fl _ (fun x y => List.count_append) rfl, fl _ (fun x y => List.count_append) rfl] at this
      exact this
    rw [fl _ (fun x y => List.length_append) rfl, fl _ (fun x y => List.length_append) rfl]
    exact hp.length_eq
  rw [Sm_sumN, Sm_sumN, h.len] at hl
  have hle : ∀ a, a < W.length → (st W a).length ≤ (st rs a).length := by
    intro a ha
    have := (h.pre a ha).2.1
    rw [hf a ha] at this
    exact this
  have hj' : j < W.length := by rw [← h.len]; exact hj
  have he := sumN_eq W.length hle (by omega) j hj'
  have h3 := (h.pre j hj').2.2
  rw [hf j hj', List.take_of_length_le (by omega), List.take_of_length_le (by omega)] at h3
  exact h3
theorem rmv_take (x : List Int) (i n k : Nat) (h : k ≤ i) (hi : i ≤ x.length) : (rmv x i n).take k = x.take k := by
  unfold rmv
  rw [List.take_append_of_le_length (by simp; omega), List.take_take, Nat.min_eq_left h]
theorem inv_step {W rs : List Rt} {b k a i : Nat} (h : Inv W rs b k) (hb : b < W.length) (hk : k < (st W b).length) (ha : a < W.length) (hi : fr W b k a ≤ i) (hil : i < (st rs a).length) (e : (st rs a).getD i 0 = (st W b).getD k 0) (hn : ¬ (k < (st rs b).length ∧ (st rs b).getD k 0 = (st W b).getD k 0)) :
    (doS rs 1 (a : Int) (i : Int) (b : Int) (k : Int) 0).1 = true ∧ ¬ rs = (doS rs 1 (a : Int) (i : Int) (b : Int) (k : Int) 0).2 ∧ Inv W (doS rs 1 (a : Int) (i : Int) (b : Int) (k : Int) 0).2 b (k + 1) := by
  have hl := h.len
  have hkb : k ≤ (st rs b).length := by
    have := (h.pre b hb).2.1
    rw [fr_at] at this
    exact this
  obtain ⟨T, hT⟩ : ∃ T, T = tkS (st rs a) i 1 := ⟨_, rfl⟩
  have hTe : T = [(st W b).getD k 0] := by
    rw [hT, ← e]
    unfold tkS
    rw [List.take_add_one, List.drop_append, List.drop_of_length_le (by simp; omega)]
    simp [List.getD, hil, show min i (st rs a).length = i by omega]
  obtain ⟨r1, hr1⟩ : ∃ r1, r1 = upd rs a (rmv (st rs a) i 1) := ⟨_, rfl⟩
  have l1 : r1.length = rs.length := by rw [hr1, upd_len]
  have hra : st r1 a = rmv (st rs a) i 1 := by rw [hr1]; exact upd_st _ _ _ (by omega)
  have hlr : (rmv (st rs a) i 1).length + 1 = (st rs a).length := by
    have := f_rmv adds_length (st rs a) i 1
    rw [← hT, hTe] at this
    simpa using this
  have hb1 : k ≤ (st r1 b).length ∧ (st r1 b).take k = (st rs b).take k ∧ (a = b → k < (st rs b).length) ∧ (a ≠ b → st r1 b = st rs b) := by
    by_cases c : a = b
    · subst c
      rw [fr_at] at hi
      rw [hra]
      exact ⟨by omega, rmv_take _ _ _ _ hi (by omega), fun _ => by omega, fun c => absurd rfl c⟩
    · rw [hr1, upd_st_ne _ _ _ _ c]
      exact ⟨hkb, rfl, fun q => absurd q c, fun _ => rfl⟩
  have hd : doS rs 1 (a : Int) (i : Int) (b : Int) (k : Int) 0 = (true, upd r1 b (ins (st r1 b) k T)) := by
    unfold doS
    rw [if_pos ⟨by omega, by omega, by omega⟩, if_pos rfl]
    have := ch_mk (rs := rs) (a := (a : Int)) (b := (b : Int)) (i := (i : Int)) (j := (k : Int)) (n := 1) (by
      simp only [Int.toNat_natCast, Int.toNat_one]
      rw [← hr1]
      omega)
    simp only [Int.toNat_natCast, Int.toNat_one] at this
    rw [this, ← hr1, ← hT]
  have hsum : ∀ id, Sm (fun l => l.count id) (doS rs 1 (a : Int) (i : Int) (b : Int) (k : Int) 0).2 = Sm (fun l => l.count id) rs := fun id => do_sum (adds_count id) rs 1 a i b k 0 (by rw [hd])
  have htr := fun q => do_tr rs 1 (a : Int) (i : Int) (b : Int) (k : Int) 0 q
  rw [hd] at hsum htr ⊢
  simp only [] at hsum htr ⊢
  have sb : st (upd r1 b (ins (st r1 b) k T)) b = ins (st r1 b) k T := upd_st _ _ _ (by omega)
  have si : (ins (st r1 b) k T).take k = (st r1 b).take k ∧ (ins (st r1 b) k T).getD k 0 = (st W b).getD k 0 ∧ (ins (st r1 b) k T).length = (st r1 b).length + 1 := by
    have e1 : ((st r1 b).take k).length = k := by simp; omega
    refine ⟨?_, ?_, ?_⟩
    · unfold ins
      rw [List.append_assoc, List.take_append_of_le_length (by omega), List.take_of_length_le (by omega)]
    · unfold ins
      rw [hTe]
      simp [List.getD, List.getElem?_append, e1]
    · rw [f_ins adds_length, hTe]
      rfl
  refine ⟨trivial, ?_, ⟨by rw [upd_len]; omega, fun q => by rw [htr, h.trs], fun id => by rw [hsum, h.cnts], fun q hq => ?_⟩⟩
  · intro he
    have h2 : st rs b = ins (st r1 b) k T := by
      have := congrArg (fun R => st R b) he
      simp only [sb] at this
      exact this
    by_cases c : a = b
    · refine hn ⟨hb1.2.2.1 c, ?_⟩
      rw [h2]
      exact si.2.1
    · have := congrArg List.length h2
      rw [si.2.2, hb1.2.2.2 c] at this
      omega
  · by_cases c : q = b
    · subst c
      have hp := h.pre q hq
      rw [fr_at] at hp ⊢
      rw [sb]
      refine ⟨by omega, by omega, take_succ_of _ _ _ (by omega) hk ?_ si.2.1⟩
      rw [si.1, hb1.2.1]
      exact hp.2.2
    · rw [upd_st_ne _ _ _ _ (Ne.symm c), fr_ne W b (k + 1) k q c]
      have hp := h.pre q hq
      by_cases d : a = q
      · subst d
        rw [hra]
        refine ⟨hp.1, by omega, ?_⟩
        rw [rmv_take _ _ _ _ hi (by omega)]
        exact hp.2.2
      · rw [hr1, upd_st_ne _ _ _ _ d]
        exact hp
end Go.Proofs.Ytcofibbgdnbejaa.Mv15
