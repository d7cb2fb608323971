-- Written by a program of this session (wip/tool/myprint.py) out of the translation.
import Derived.Test.YtenplenjpliciaaProg
import Derived.Below
import Derived.Deep.Draws
import Derived.Deep.AppendLies
import Derived.Maps.AppendAt
import Derived.OwnWalk
import Derived.Laws.BytesArg
import Derived.Laws.MakeOwn
import Derived.Laws.OwnMore
import Derived.Deep.OwnRows
import Derived.Tactics
import Derived.Lib.ConvBytes
import Derived.Laws.Slices
import Derived.WalkKit
import Derived.KernelRfl
import Derived.RowKit3
import Derived.Deep.LoopGhost
import Derived.Deep.QuietTactic
import Derived.BigQuiet
import Derived.WideLaws
import Derived.Deep.DeepCutAuto
import Derived.Deep.CutBlock
import Derived.Deep.RegionHeld3
import Derived.Laws.Rows
import Derived.Lib.AppendStr
import Derived.ArgAppend
import Derived.Laws.IdiomCopy
import Derived.OrdersHeld
import Derived.Laws.BitsLemmas
import Derived.RowKit
import Derived.Test.YtenplenjpliciaaIj
import Derived.Test.YtenplenjpliciaaWWords
import Derived.Test.YtenplenjpliciaaWLast
import Derived.Test.YtenplenjpliciaaWTab
import Derived.Test.YtenplenjpliciaaWFour
import Derived.Test.YtenplenjpliciaaWQPut
import Derived.Test.YtenplenjpliciaaWApart
import Derived.Test.YtenplenjpliciaaWArr
import Derived.Test.YtenplenjpliciaaWZeros
import Derived.Test.YtenplenjpliciaaWFoot
import Derived.Test.YtenplenjpliciaaWKept
import Derived.Test.YtenplenjpliciaaWShare
import Derived.Test.YtenplenjpliciaaWN
import Derived.Test.YtenplenjpliciaaWFootNe
import Derived.Test.YtenplenjpliciaaWAt
import Derived.Test.YtenplenjpliciaaWEqStruct
import Derived.Test.YtenplenjpliciaaWRepsOne
import Derived.Test.YtenplenjpliciaaWInv
import Derived.Test.YtenplenjpliciaaWInvWords
import Derived.Test.YtenplenjpliciaaWGuard
import Derived.Test.YtenplenjpliciaaWNEv
import Derived.Test.YtenplenjpliciaaWMore
namespace Go.Proofs.Ytenplenjpliciaa.PFnBaseLines
open Go.RowKit Go.Proofs.YtenplenjpliciaaW.PrintWords Go.Proofs.YtenplenjpliciaaW.PrintLast Go.Proofs.YtenplenjpliciaaW.PrintMore
attribute [local go_sem] max2_int min2_int max_two min_two max_three min_three max_four min_four   -- for this text's walks alone
set_option linter.unusedVariables false
set_option linter.unusedSimpArgs false



def errW : Option Int → Value
 | none => .nilIface
 | some c => .iface 0 (.int .i64 c)
theorem errW_none : errW none = .nilIface := rfl
theorem errW_some (c : Int) : errW (some c) = .iface 0 (.int .i64 c) := rfl

theorem info3 : (Try.prog.info? 3).map (fun i => (i.zero, i.size, i.bytes)) = some (some (.int .i64 0), 1, 8) := by kernel_rfl
theorem info5 : (Try.prog.info? 5).map (fun i => (i.zero, i.size, i.bytes)) = some (some (.int .u8 0), 1, 1) := by kernel_rfl
theorem info9 : (Try.prog.info? 9).map (fun i => (i.zero, i.size, i.bytes)) = some (some (.string ⟨#[]⟩), 1, 16) := by kernel_rfl
-- the values' own types

end Go.Proofs.Ytenplenjpliciaa.PFnBaseLines
