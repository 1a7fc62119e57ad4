/- strings.IndexByte at this program (the shelf's contract); view.Kind. -/
import Derived.Test.YtegmofaiobdilaaVw3
import Derived.Shelf.Small.Strs
namespace Go.Proofs.Ytegmofaiobdilaa.Vw4
open Go.RowKit Go.Shelf Go.Proofs.YtegmofaiobdilaaW.PrintWords Go.Proofs.YtegmofaiobdilaaW.PrintLast Go.Proofs.YtegmofaiobdilaaW.PrintMore Go.Proofs.Ytegmofaiobdilaa.Vw1
set_option linter.unusedVariables false
set_option linter.unusedSimpArgs false
def ren : Go.Shelf.Ren := ⟨fun | 137 => 32 | 217 => 36 | 266 => 40 | n => n, fun | 3 => 3 | 5 => 5 | 9 => 9 | n => n, fun n => n⟩
theorem lays137 : Lays.n137 Try.prog ren := {
  mixed := (by kernel_rfl)
  f137 := Try.func32.trans (congrArg some (by kernel_rfl))
  f217 := Try.func36.trans (congrArg some (by kernel_rfl))
  f266 := Try.func40.trans (congrArg some (by kernel_rfl))
  t3 := Try.underlying3
  a3 := Try.isAgg3
  z3 := Try.sizeOf3
  v3 := Try.zeroValue3
  t5 := Try.underlying5
  a5 := Try.isAgg5
  z5 := Try.sizeOf5
  v5 := Try.zeroValue5
  t9 := Try.underlying9
  a9 := Try.isAgg9
  z9 := Try.sizeOf9
  v9 := Try.zeroValue9 }
theorem ib (s : ByteArray) (c : Int) (w : World) : Calls Try.prog 32 #[.string s, .int .u8 c] w fun e w' => e = .returned (.int .i64 (Lib.indexByte s.data.toList c.toNat.toUInt8)) ∧ w' = w := Any.strings_IndexByte lays137 s c w
def kindJ (c : Int) : Int := Lib.indexByte [82, 65, 87, 68] c.toNat.toUInt8
def kindS (c : Int) : Int × Bool := if kindJ c < 0 then (0, false) else (kindJ c, true)
set_option maxHeartbeats 8000000 in
set_option maxRecDepth 100000 in
theorem kind_n (c j : Int) (hj : kindJ c = j) (h : j < 0) (w : World) : Calls Try.prog 18 #[.int .u8 c] w fun e w' => e = .returned (.tuple #[.int .i64 (0, false).1, .bool (0, false).2]) ∧ Drawn0 w w' := by
  have HJ := Aside0.mk hj
  have p1 : (j < 0) = True := eq_true h
  have HD := Aside0.mk (show Drawn0 w w from ⟨0, rfl⟩)
  clear hj h
  go_enter Try.func18, Try.ntmps18
  go_wp2_with (go_at_call 32; (with_reducible refine (ib _ c _).mono ?_); rintro e wv ⟨rfl, rfl⟩; rw [show Lib.indexByte (ByteArray.data { data := #[82, 65, 87, 68] }).toList c.toNat.toUInt8 = j from HJ.out])
  first | go_ret | go_ret2
  exact ⟨rfl, HD.out⟩
set_option maxHeartbeats 8000000 in
set_option maxRecDepth 100000 in
theorem kind_y (c j : Int) (hj : kindJ c = j) (h : ¬ j < 0) (w : World) : Calls Try.prog 18 #[.int .u8 c] w fun e w' => e = .returned (.tuple #[.int .i64 (j, true).1, .bool (j, true).2]) ∧ Drawn0 w w' := by
  have HJ := Aside0.mk hj
  have p1 : (j < 0) = False := eq_false h
  have HD := Aside0.mk (show Drawn0 w w from ⟨0, rfl⟩)
  clear hj h
  go_enter Try.func18, Try.ntmps18
  go_wp2_with (go_at_call 32; (with_reducible refine (ib _ c _).mono ?_); rintro e wv ⟨rfl, rfl⟩; rw [show Lib.indexByte (ByteArray.data { data := #[82, 65, 87, 68] }).toList c.toNat.toUInt8 = j from HJ.out])
  first | go_ret | go_ret2
  exact ⟨rfl, HD.out⟩
theorem kind_ (c : Int) (w : World) : Calls Try.prog 18 #[.int .u8 c] w fun e w' => e = .returned (.tuple #[.int .i64 (kindS c).1, .bool (kindS c).2]) ∧ Drawn0 w w' := by
  unfold kindS
  by_cases h : kindJ c < 0
  · rw [if_pos h]
    exact kind_n c _ rfl h w
  · rw [if_neg h]
    exact kind_y c _ rfl h w
end Go.Proofs.Ytegmofaiobdilaa.Vw4
