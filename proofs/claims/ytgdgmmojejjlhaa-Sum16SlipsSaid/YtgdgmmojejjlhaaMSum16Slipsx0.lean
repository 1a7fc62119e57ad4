/- Written by a program of this session: Go functions that the law Sum16Slips reaches, as Lean functions, each with a proof that the Go code comes to just what it says; every input of the kinds that a contract names. -/
import Derived.Test.YtgdgmmojejjlhaaProg
import Derived.Below
import Derived.Deep.Draws
import Derived.Deep.AppendLies
import Derived.Maps.AppendAt
import Derived.OwnWalk
import Derived.Laws.BytesArg
import Derived.Laws.MakeOwn
import Derived.Laws.OwnMore
import Derived.Deep.OwnRows
import Derived.Tactics
import Derived.Lib.ConvBytes
import Derived.Laws.Slices
import Derived.WalkKit
import Derived.KernelRfl
import Derived.RowKit3
import Derived.Deep.LoopGhost
import Derived.Deep.QuietTactic
import Derived.BigQuiet
import Derived.WideLaws
import Derived.Deep.DeepCutAuto
import Derived.Deep.CutBlock
import Derived.Deep.RegionHeld3
import Derived.Laws.Rows
import Derived.Lib.AppendStr
import Derived.ArgAppend
import Derived.Laws.IdiomCopy
import Derived.OrdersHeld
import Derived.Laws.BitsLemmas
import Derived.RowKit
import Derived.Test.YtgdgmmojejjlhaaWWords
import Derived.Test.YtgdgmmojejjlhaaWLast
import Derived.Test.YtgdgmmojejjlhaaWTab
import Derived.Test.YtgdgmmojejjlhaaWFour
import Derived.Test.YtgdgmmojejjlhaaWQPut
import Derived.Test.YtgdgmmojejjlhaaWApart
import Derived.Test.YtgdgmmojejjlhaaWArr
import Derived.Test.YtgdgmmojejjlhaaWZeros
import Derived.Test.YtgdgmmojejjlhaaWFoot
import Derived.Test.YtgdgmmojejjlhaaWKept
import Derived.Test.YtgdgmmojejjlhaaWShare
import Derived.Test.YtgdgmmojejjlhaaWN
import Derived.Test.YtgdgmmojejjlhaaWFootNe
import Derived.Test.YtgdgmmojejjlhaaWAt
import Derived.Test.YtgdgmmojejjlhaaWEqStruct
import Derived.Test.YtgdgmmojejjlhaaWRepsOne
import Derived.Test.YtgdgmmojejjlhaaWInv
import Derived.Test.YtgdgmmojejjlhaaWInvWords
import Derived.Test.YtgdgmmojejjlhaaWGuard
import Derived.Test.YtgdgmmojejjlhaaWNEv
import Derived.Test.YtgdgmmojejjlhaaWMore
namespace Go.Proofs.Ytgdgmmojejjlhaa.MSum16Slips
open Go.RowKit Go.Proofs.YtgdgmmojejjlhaaW.PrintWords Go.Proofs.YtgdgmmojejjlhaaW.PrintLast Go.Proofs.YtgdgmmojejjlhaaW.PrintMore
attribute [local go_sem] max2_int min2_int max_two min_two max_three min_three max_four min_four   -- for this text's walks alone
set_option linter.unusedVariables false
set_option linter.unusedSimpArgs false
set_option linter.unnecessarySimpa false



def errW : Option Int → Value
  | none => .nilIface
  | some c => .iface 0 (.int .i64 c)
theorem errW_none : errW none = .nilIface := rfl
theorem errW_some (c : Int) : errW (some c) = .iface 0 (.int .i64 c) := rfl

theorem info5 : (Try.prog.info? 5).map (fun i => (i.zero, i.size, i.bytes)) = some (some (.int .u8 0), 1, 1) := by kernel_rfl
-- the values' own types

end Go.Proofs.Ytgdgmmojejjlhaa.MSum16Slips
