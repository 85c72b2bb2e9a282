-- Written by a program of the session (wip/tool/mk.py) out of the translation; Lean checks it.
import Derived.Test.YtfdmkedpjbjfgaaProg
import Derived.Below
import Derived.Deep.Draws
import Derived.Deep.AppendLies
import Derived.Maps.AppendAt
import Derived.OwnWalk
import Derived.Laws.BytesArg
import Derived.Laws.MakeOwn
import Derived.Laws.OwnMore
import Derived.Deep.OwnRows
import Derived.Tactics
import Derived.Lib.ConvBytes
import Derived.Laws.Slices
import Derived.WalkKit
import Derived.KernelRfl
import Derived.RowKit3
import Derived.Deep.LoopGhost
import Derived.Deep.QuietTactic
import Derived.BigQuiet
import Derived.WideLaws
import Derived.Deep.DeepCutAuto
import Derived.Deep.CutBlock
import Derived.Deep.RegionHeld3
import Derived.Laws.Rows
import Derived.Lib.AppendStr
import Derived.ArgAppend
import Derived.Laws.IdiomCopy
import Derived.OrdersHeld
import Derived.Laws.BitsLemmas
import Derived.RowKit
import Derived.Test.YtfdmkedpjbjfgaaWWords
import Derived.Test.YtfdmkedpjbjfgaaWLast
import Derived.Test.YtfdmkedpjbjfgaaWTab
import Derived.Test.YtfdmkedpjbjfgaaWFour
import Derived.Test.YtfdmkedpjbjfgaaWQPut
import Derived.Test.YtfdmkedpjbjfgaaWApart
import Derived.Test.YtfdmkedpjbjfgaaWArr
import Derived.Test.YtfdmkedpjbjfgaaWZeros
import Derived.Test.YtfdmkedpjbjfgaaWFoot
import Derived.Test.YtfdmkedpjbjfgaaWKept
import Derived.Test.YtfdmkedpjbjfgaaWShare
import Derived.Test.YtfdmkedpjbjfgaaWN
import Derived.Test.YtfdmkedpjbjfgaaWFootNe
import Derived.Test.YtfdmkedpjbjfgaaWAt
import Derived.Test.YtfdmkedpjbjfgaaWEqStruct
import Derived.Test.YtfdmkedpjbjfgaaWRepsOne
import Derived.Test.YtfdmkedpjbjfgaaWInv
import Derived.Test.YtfdmkedpjbjfgaaWInvWords
import Derived.Test.YtfdmkedpjbjfgaaWGuard
import Derived.Test.YtfdmkedpjbjfgaaWNEv
import Derived.Test.YtfdmkedpjbjfgaaWMore
import Derived.Test.YtfdmkedpjbjfgaaOwn
namespace Go.Proofs.Ytfdmkedpjbjfgaa.P
open Go.RowKit Go.Proofs.YtfdmkedpjbjfgaaW.PrintWords Go.Proofs.YtfdmkedpjbjfgaaW.PrintLast Go.Proofs.YtfdmkedpjbjfgaaW.PrintMore
attribute [local go_sem] max2_int min2_int max_two min_two max_three min_three max_four min_four   -- for this text's walks alone
set_option linter.unusedVariables false
set_option linter.unusedSimpArgs false



def errW : Option Int → Value
  | none => .nilIface
  | some c => .iface 0 (.int .i64 c)
theorem errW_none : errW none = .nilIface := rfl
theorem errW_some (c : Int) : errW (some c) = .iface 0 (.int .i64 c) := rfl

theorem info5 : (Try.prog.info? 5).map (fun i => (i.zero, i.size, i.bytes)) = some (some (.int .u8 0), 1, 1) := by kernel_rfl
-- the values' own types

end Go.Proofs.Ytfdmkedpjbjfgaa.P
