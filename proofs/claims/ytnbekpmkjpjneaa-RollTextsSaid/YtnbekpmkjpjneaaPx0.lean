-- Written by a program of the session (wip/tool/mk.py) out of the translation; Lean checks it.
import Derived.Test.YtnbekpmkjpjneaaProg
import Derived.Below
import Derived.Deep.Draws
import Derived.Deep.AppendLies
import Derived.Maps.AppendAt
import Derived.OwnWalk
import Derived.Laws.BytesArg
import Derived.Laws.MakeOwn
import Derived.Laws.OwnMore
import Derived.Deep.OwnRows
import Derived.Tactics
import Derived.Lib.ConvBytes
import Derived.Laws.Slices
import Derived.WalkKit
import Derived.KernelRfl
import Derived.RowKit3
import Derived.Deep.LoopGhost
import Derived.Deep.QuietTactic
import Derived.BigQuiet
import Derived.WideLaws
import Derived.Deep.DeepCutAuto
import Derived.Deep.CutBlock
import Derived.Deep.RegionHeld3
import Derived.Laws.Rows
import Derived.Lib.AppendStr
import Derived.ArgAppend
import Derived.Laws.IdiomCopy
import Derived.OrdersHeld
import Derived.Laws.BitsLemmas
import Derived.RowKit
import Derived.Test.YtnbekpmkjpjneaaWWords
import Derived.Test.YtnbekpmkjpjneaaWLast
import Derived.Test.YtnbekpmkjpjneaaWTab
import Derived.Test.YtnbekpmkjpjneaaWFour
import Derived.Test.YtnbekpmkjpjneaaWQPut
import Derived.Test.YtnbekpmkjpjneaaWApart
import Derived.Test.YtnbekpmkjpjneaaWArr
import Derived.Test.YtnbekpmkjpjneaaWZeros
import Derived.Test.YtnbekpmkjpjneaaWFoot
import Derived.Test.YtnbekpmkjpjneaaWKept
import Derived.Test.YtnbekpmkjpjneaaWShare
import Derived.Test.YtnbekpmkjpjneaaWN
import Derived.Test.YtnbekpmkjpjneaaWFootNe
import Derived.Test.YtnbekpmkjpjneaaWAt
import Derived.Test.YtnbekpmkjpjneaaWEqStruct
import Derived.Test.YtnbekpmkjpjneaaWRepsOne
import Derived.Test.YtnbekpmkjpjneaaWInv
import Derived.Test.YtnbekpmkjpjneaaWInvWords
import Derived.Test.YtnbekpmkjpjneaaWGuard
import Derived.Test.YtnbekpmkjpjneaaWNEv
import Derived.Test.YtnbekpmkjpjneaaWMore
import Derived.Test.YtnbekpmkjpjneaaOwn
namespace Go.Proofs.Ytnbekpmkjpjneaa.P
open Go.RowKit Go.Proofs.YtnbekpmkjpjneaaW.PrintWords Go.Proofs.YtnbekpmkjpjneaaW.PrintLast Go.Proofs.YtnbekpmkjpjneaaW.PrintMore
attribute [local go_sem] max2_int min2_int max_two min_two max_three min_three max_four min_four   -- for this text's walks alone
set_option linter.unusedVariables false
set_option linter.unusedSimpArgs false



def errW : Option Int → Value
  | none => .nilIface
  | some c => .iface 0 (.int .i64 c)
theorem errW_none : errW none = .nilIface := rfl
theorem errW_some (c : Int) : errW (some c) = .iface 0 (.int .i64 c) := rfl

theorem info5 : (Try.prog.info? 5).map (fun i => (i.zero, i.size, i.bytes)) = some (some (.int .u8 0), 1, 1) := by kernel_rfl
-- the values' own types

end Go.Proofs.Ytnbekpmkjpjneaa.P
