/- Written by a program of this session: Go functions that the law DrawAll reaches, as Lean functions, each with a proof that the Go code comes to just what it says; every input of the kinds that a contract names. -/
import Derived.Test.YtabhikacghkcgaaProg
import Derived.Below
import Derived.Deep.Draws
import Derived.Deep.AppendLies
import Derived.Maps.AppendAt
import Derived.OwnWalk
import Derived.Laws.BytesArg
import Derived.Laws.MakeOwn
import Derived.Laws.OwnMore
import Derived.Deep.OwnRows
import Derived.Tactics
import Derived.Lib.ConvBytes
import Derived.Laws.Slices
import Derived.WalkKit
import Derived.KernelRfl
import Derived.RowKit3
import Derived.Deep.LoopGhost
import Derived.Deep.QuietTactic
import Derived.BigQuiet
import Derived.WideLaws
import Derived.Deep.DeepCutAuto
import Derived.Deep.CutBlock
import Derived.Deep.RegionHeld3
import Derived.Laws.Rows
import Derived.Lib.AppendStr
import Derived.ArgAppend
import Derived.Laws.IdiomCopy
import Derived.OrdersHeld
import Derived.Laws.BitsLemmas
import Derived.RowKit
import Derived.Test.YtabhikacghkcgaaDraw8
import Derived.Test.YtabhikacghkcgaaWWords
import Derived.Test.YtabhikacghkcgaaWLast
import Derived.Test.YtabhikacghkcgaaWTab
import Derived.Test.YtabhikacghkcgaaWFour
import Derived.Test.YtabhikacghkcgaaWQPut
import Derived.Test.YtabhikacghkcgaaWApart
import Derived.Test.YtabhikacghkcgaaWArr
import Derived.Test.YtabhikacghkcgaaWZeros
import Derived.Test.YtabhikacghkcgaaWFoot
import Derived.Test.YtabhikacghkcgaaWKept
import Derived.Test.YtabhikacghkcgaaWShare
import Derived.Test.YtabhikacghkcgaaWN
import Derived.Test.YtabhikacghkcgaaWFootNe
import Derived.Test.YtabhikacghkcgaaWAt
import Derived.Test.YtabhikacghkcgaaWEqStruct
import Derived.Test.YtabhikacghkcgaaWRepsOne
import Derived.Test.YtabhikacghkcgaaWInv
import Derived.Test.YtabhikacghkcgaaWInvWords
import Derived.Test.YtabhikacghkcgaaWGuard
import Derived.Test.YtabhikacghkcgaaWNEv
import Derived.Test.YtabhikacghkcgaaWMore
namespace Go.Proofs.Ytabhikacghkcgaa.MDrawAll
open Go.RowKit Go.Proofs.YtabhikacghkcgaaW.PrintWords Go.Proofs.YtabhikacghkcgaaW.PrintLast Go.Proofs.YtabhikacghkcgaaW.PrintMore
attribute [local go_sem] max2_int min2_int max_two min_two max_three min_three max_four min_four   -- for this text's walks alone
set_option linter.unusedVariables false
set_option linter.unusedSimpArgs false
set_option linter.unnecessarySimpa false



def errW : Option Int → Value
  | none => .nilIface
  | some c => .iface 0 (.int .i64 c)
theorem errW_none : errW none = .nilIface := rfl
theorem errW_some (c : Int) : errW (some c) = .iface 0 (.int .i64 c) := rfl

theorem info3 : (Try.prog.info? 3).map (fun i => (i.zero, i.size, i.bytes)) = some (some (.int .i64 0), 1, 8) := by kernel_rfl
-- the values' own types

end Go.Proofs.Ytabhikacghkcgaa.MDrawAll
