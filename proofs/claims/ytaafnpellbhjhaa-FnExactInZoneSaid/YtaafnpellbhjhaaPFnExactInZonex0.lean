-- Written by a program of this session (wip/tool/myprint.py) out of the translation.
import Derived.Test.YtaafnpellbhjhaaProg
import Derived.Below
import Derived.Deep.Draws
import Derived.Deep.AppendLies
import Derived.Maps.AppendAt
import Derived.OwnWalk
import Derived.Laws.BytesArg
import Derived.Laws.MakeOwn
import Derived.Laws.OwnMore
import Derived.Deep.OwnRows
import Derived.Tactics
import Derived.Lib.ConvBytes
import Derived.Laws.Slices
import Derived.WalkKit
import Derived.KernelRfl
import Derived.RowKit3
import Derived.Deep.LoopGhost
import Derived.Deep.QuietTactic
import Derived.BigQuiet
import Derived.WideLaws
import Derived.Deep.DeepCutAuto
import Derived.Deep.CutBlock
import Derived.Deep.RegionHeld3
import Derived.Laws.Rows
import Derived.Lib.AppendStr
import Derived.ArgAppend
import Derived.Laws.IdiomCopy
import Derived.OrdersHeld
import Derived.Laws.BitsLemmas
import Derived.RowKit
import Derived.Test.YtaafnpellbhjhaaWWords
import Derived.Test.YtaafnpellbhjhaaWLast
import Derived.Test.YtaafnpellbhjhaaWTab
import Derived.Test.YtaafnpellbhjhaaWFour
import Derived.Test.YtaafnpellbhjhaaWQPut
import Derived.Test.YtaafnpellbhjhaaWApart
import Derived.Test.YtaafnpellbhjhaaWArr
import Derived.Test.YtaafnpellbhjhaaWZeros
import Derived.Test.YtaafnpellbhjhaaWFoot
import Derived.Test.YtaafnpellbhjhaaWKept
import Derived.Test.YtaafnpellbhjhaaWShare
import Derived.Test.YtaafnpellbhjhaaWN
import Derived.Test.YtaafnpellbhjhaaWFootNe
import Derived.Test.YtaafnpellbhjhaaWAt
import Derived.Test.YtaafnpellbhjhaaWEqStruct
import Derived.Test.YtaafnpellbhjhaaWRepsOne
import Derived.Test.YtaafnpellbhjhaaWInv
import Derived.Test.YtaafnpellbhjhaaWInvWords
import Derived.Test.YtaafnpellbhjhaaWGuard
import Derived.Test.YtaafnpellbhjhaaWNEv
import Derived.Test.YtaafnpellbhjhaaWMore
namespace Go.Proofs.Ytaafnpellbhjhaa.PFnExactInZone
open Go.RowKit Go.Proofs.YtaafnpellbhjhaaW.PrintWords Go.Proofs.YtaafnpellbhjhaaW.PrintLast Go.Proofs.YtaafnpellbhjhaaW.PrintMore
attribute [local go_sem] max2_int min2_int max_two min_two max_three min_three max_four min_four   -- for this text's walks alone
set_option linter.unusedVariables false
set_option linter.unusedSimpArgs false



def errW : Option Int → Value
 | none => .nilIface
 | some c => .iface 0 (.int .i64 c)
theorem errW_none : errW none = .nilIface := rfl
theorem errW_some (c : Int) : errW (some c) = .iface 0 (.int .i64 c) := rfl

theorem info3 : (Try.prog.info? 3).map (fun i => (i.zero, i.size, i.bytes)) = some (some (.int .i64 0), 1, 8) := by kernel_rfl
-- the values' own types

end Go.Proofs.Ytaafnpellbhjhaa.PFnExactInZone
