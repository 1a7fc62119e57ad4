/- Written by a program of this session: Go functions that the law DiscTold reaches, as Lean functions, each with a proof that the Go code comes to just what it says; every input of the kinds that a contract names. -/
import Derived.Test.YtjpnfhnmcgejhaaProg
import Derived.Below
import Derived.Deep.Draws
import Derived.Deep.AppendLies
import Derived.Maps.AppendAt
import Derived.OwnWalk
import Derived.Laws.BytesArg
import Derived.Laws.MakeOwn
import Derived.Laws.OwnMore
import Derived.Deep.OwnRows
import Derived.Tactics
import Derived.Lib.ConvBytes
import Derived.Laws.Slices
import Derived.WalkKit
import Derived.KernelRfl
import Derived.RowKit3
import Derived.Deep.LoopGhost
import Derived.Deep.QuietTactic
import Derived.BigQuiet
import Derived.WideLaws
import Derived.Deep.DeepCutAuto
import Derived.Deep.CutBlock
import Derived.Deep.RegionHeld3
import Derived.Laws.Rows
import Derived.Lib.AppendStr
import Derived.ArgAppend
import Derived.Laws.IdiomCopy
import Derived.OrdersHeld
import Derived.Laws.BitsLemmas
import Derived.RowKit
import Derived.Test.YtjpnfhnmcgejhaaWWords
import Derived.Test.YtjpnfhnmcgejhaaWLast
import Derived.Test.YtjpnfhnmcgejhaaWTab
import Derived.Test.YtjpnfhnmcgejhaaWFour
import Derived.Test.YtjpnfhnmcgejhaaWQPut
import Derived.Test.YtjpnfhnmcgejhaaWApart
import Derived.Test.YtjpnfhnmcgejhaaWArr
import Derived.Test.YtjpnfhnmcgejhaaWZeros
import Derived.Test.YtjpnfhnmcgejhaaWFoot
import Derived.Test.YtjpnfhnmcgejhaaWKept
import Derived.Test.YtjpnfhnmcgejhaaWShare
import Derived.Test.YtjpnfhnmcgejhaaWN
import Derived.Test.YtjpnfhnmcgejhaaWFootNe
import Derived.Test.YtjpnfhnmcgejhaaWAt
import Derived.Test.YtjpnfhnmcgejhaaWEqStruct
import Derived.Test.YtjpnfhnmcgejhaaWRepsOne
import Derived.Test.YtjpnfhnmcgejhaaWInv
import Derived.Test.YtjpnfhnmcgejhaaWInvWords
import Derived.Test.YtjpnfhnmcgejhaaWGuard
import Derived.Test.YtjpnfhnmcgejhaaWNEv
import Derived.Test.YtjpnfhnmcgejhaaWMore
namespace Go.Proofs.Ytjpnfhnmcgejhaa.MDiscTold
open Go.RowKit Go.Proofs.YtjpnfhnmcgejhaaW.PrintWords Go.Proofs.YtjpnfhnmcgejhaaW.PrintLast Go.Proofs.YtjpnfhnmcgejhaaW.PrintMore
attribute [local go_sem] max2_int min2_int max_two min_two max_three min_three max_four min_four   -- for this text's walks alone
set_option linter.unusedVariables false
set_option linter.unusedSimpArgs false
set_option linter.unnecessarySimpa false



def errW : Option Int → Value
  | none => .nilIface
  | some c => .iface 0 (.int .i64 c)
theorem errW_none : errW none = .nilIface := rfl
theorem errW_some (c : Int) : errW (some c) = .iface 0 (.int .i64 c) := rfl

-- the values' own types

end Go.Proofs.Ytjpnfhnmcgejhaa.MDiscTold
