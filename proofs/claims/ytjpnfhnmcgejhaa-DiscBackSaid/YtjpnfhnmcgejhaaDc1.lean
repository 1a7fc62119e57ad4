/- The writer of numbers: put, and Encode's inner function. -/
import Derived.Test.YtjpnfhnmcgejhaaMSumPutx1
import Derived.Test.YtjpnfhnmcgejhaaWN
import Derived.Test.YtjpnfhnmcgejhaaWNEv
import Derived.Test.YtjpnfhnmcgejhaaWGuard
import Derived.BigRegion
import Derived.RegionTactic
import Derived.Deep.LoopGhost
import Derived.RowKit3
namespace Go.Proofs.Ytjpnfhnmcgejhaa.Dc1
open Go.RowKit Go.Proofs.YtjpnfhnmcgejhaaW.PrintWords Go.Proofs.YtjpnfhnmcgejhaaW.PrintLast Go.Proofs.YtjpnfhnmcgejhaaW.PrintMore Go.Proofs.Ytjpnfhnmcgejhaa.MSumPut
attribute [local go_sem] max2_int min2_int max_two min_two max_three min_three max_four min_four
set_option linter.unusedVariables false
set_option linter.unusedSimpArgs false
/-- A number as two bytes. -/
def putB (n : Int) : ByteArray := strOfNums [(n / 256) % 256, n % 256]
theorem putB_size (n : Int) : (putB n).size = 2 := by
  unfold putB strOfNums
  simp [ByteArray.size]
theorem put_f {n : Int} (h0 : 0 ≤ n) (h1 : n ≤ 65535) : sum16_Put.f n = some (putB n, 0) := by
  unfold sum16_Put.f sum16_bytes.f putB
  rw [if_neg (by omega), if_neg (by omega)]
  rfl
/-- Block g is a writer that has out. -/
def IsW (w : World) (g : Nat) (out : ByteArray) : Prop := w.heap[g]? = some (.cells #[.string out, .int .i64 0] 45 (0, 0))
/-- What a writer's step keeps: all but the writer. -/
structure WK (w w' : World) (g : Nat) : Prop where
  os : w'.os = w.os
  tape : w'.tape = w.tape
  output : w'.output = w.output
  size : w.heap.size ≤ w'.heap.size
  block : ∀ i, i < w.heap.size → i ≠ g → w'.heap[i]? = w.heap[i]?
theorem WK.refl (w : World) (g : Nat) : WK w w g := ⟨rfl, rfl, rfl, Nat.le_refl _, fun _ _ _ => rfl⟩
theorem WK.trans {w w1 w2 : World} {g : Nat} (h : WK w w1 g) (h2 : WK w1 w2 g) : WK w w2 g :=
  ⟨h2.os.trans h.os, h2.tape.trans h.tape, h2.output.trans h.output, Nat.le_trans h.size h2.size, fun i hi hn => (h2.block i (Nat.lt_of_lt_of_le hi h.size) hn).trans (h.block i hi hn)⟩
theorem WK.of_below {w w' : World} (h : Below w.heap.size w w') (g : Nat) : WK w w' g := ⟨h.os, h.tape, h.output, h.size, fun i hi _ => h.block i hi⟩
theorem WK.set {w w1 : World} {g : Nat} (h : WK w w1 g) (j : Nat) (u : Value) : WK w (w1.setCell ⟨g, j, none⟩ u) g :=
  ⟨h.os, h.tape, h.output, by simpa [World.setCell] using h.size, fun i hi hn => (Below.heap_setCell w1 ⟨g, j, none⟩ u i hn).trans (h.block i hi hn)⟩
theorem WK.base {w0 w w' : World} {g : Nat} (hB : Below w0.heap.size w0 w) (h : WK w w' g) (hg : w0.heap.size ≤ g) : Below w0.heap.size w0 w' :=
  ⟨h.os.trans hB.os, h.tape.trans hB.tape, h.output.trans hB.output, Nat.le_trans hB.size h.size, fun i hi => (h.block i (Nat.lt_of_lt_of_le hi hB.size) (by omega)).trans (hB.block i hi)⟩
theorem WK.blk {w w' : World} {g g2 : Nat} {o : Obj} (h : WK w w' g) (h2 : w.heap[g2]? = some o) (hn : g2 ≠ g) : w'.heap[g2]? = some o := (h.block g2 (blk_lt h2) hn).trans h2
set_option maxHeartbeats 8000000 in
set_option maxRecDepth 100000 in
theorem put_ (g : Nat) (out : ByteArray) (n : Int) (h0 : 0 ≤ n) (h1 : n ≤ 65535) (hs : out.size ≤ 1000000000) (w : World) (hW : IsW w g out) : Calls Try.prog 16 #[.pointer (some ⟨g, 0, none⟩), .int .i64 n] w fun e w' => e = .returned (.tuple #[]) ∧ IsW w' g (out ++ putB n) ∧ WK w w' g := by
  have HP := Aside0.mk (put_f h0 h1)
  have hs2 : (out.size + (putB n).size ≤ 9223372036854775807) = True := eq_true (by rw [putB_size]; omega)
  have hs3 : (9223372036854775807 < out.size + (putB n).size) = False := eq_false (by rw [putB_size]; omega)
  have HW := Aside0.mk hW
  have HK := Aside0.mk (WK.refl w g)
  generalize putB n = pn at *
  clear h0 h1 hs hW
  go_enter Try.func16, Try.ntmps16
  go_wp2_with (first | (go_at_call 32; (with_reducible refine (sum16_Put.calls n pn 0 _ HP.out).mono ?_); rintro e wv ⟨rfl, hb⟩; replace HW := Aside0.mk (show IsW wv g out from blk_below HW.out hb); replace HK := Aside0.mk (HK.out.trans (WK.of_below hb g)); have hc0 : wv.cell? ⟨g, 0, none⟩ = some (.string out) := (blk_cell HW.out 0).trans rfl; have hfz := blk_frozen HW.out 0; clear hb) | ((with_reducible refine gate_store (t := 9) (p := 24) rfl ?_); refine store_event (t := 9) (p := 24) (v := .tmp 22) (w1 := (wv.setCell ⟨g, 0, none⟩ (.string (out ++ pn)))) ?hg ?ho ?hn ?hr ?_; (case ho => rfl); (case hg => rfl); (case hn => rfl); (case hr => first | (go_simp; done) | (go_simp; rfl)); intro wy hw; have HY := Aside0.mk hw; clear hw))
  (try refine bodyPost_end (results_none rfl _ _ _) rfl ?_)
  have hy := HY.out
  subst hy
  exact ⟨rfl, blk_put HW.out 0 _ rfl, HK.out.set 0 _⟩
end Go.Proofs.Ytjpnfhnmcgejhaa.Dc1
