-- Written by a program of this session (wip/tool/myprint.py) out of the translation.
import Derived.Test.YthmdblcgiljhpaaProg
import Derived.Below
import Derived.Deep.Draws
import Derived.Deep.AppendLies
import Derived.Maps.AppendAt
import Derived.OwnWalk
import Derived.Laws.BytesArg
import Derived.Laws.MakeOwn
import Derived.Laws.OwnMore
import Derived.Deep.OwnRows
import Derived.Tactics
import Derived.Lib.ConvBytes
import Derived.Laws.Slices
import Derived.WalkKit
import Derived.KernelRfl
import Derived.RowKit3
import Derived.Deep.LoopGhost
import Derived.Deep.QuietTactic
import Derived.BigQuiet
import Derived.WideLaws
import Derived.Deep.DeepCutAuto
import Derived.Deep.CutBlock
import Derived.Deep.RegionHeld3
import Derived.Laws.Rows
import Derived.Lib.AppendStr
import Derived.ArgAppend
import Derived.Laws.IdiomCopy
import Derived.OrdersHeld
import Derived.Laws.BitsLemmas
import Derived.RowKit
import Derived.Test.YthmdblcgiljhpaaWWords
import Derived.Test.YthmdblcgiljhpaaWLast
import Derived.Test.YthmdblcgiljhpaaWTab
import Derived.Test.YthmdblcgiljhpaaWFour
import Derived.Test.YthmdblcgiljhpaaWQPut
import Derived.Test.YthmdblcgiljhpaaWApart
import Derived.Test.YthmdblcgiljhpaaWArr
import Derived.Test.YthmdblcgiljhpaaWZeros
import Derived.Test.YthmdblcgiljhpaaWFoot
import Derived.Test.YthmdblcgiljhpaaWKept
import Derived.Test.YthmdblcgiljhpaaWShare
import Derived.Test.YthmdblcgiljhpaaWN
import Derived.Test.YthmdblcgiljhpaaWFootNe
import Derived.Test.YthmdblcgiljhpaaWAt
import Derived.Test.YthmdblcgiljhpaaWEqStruct
import Derived.Test.YthmdblcgiljhpaaWRepsOne
import Derived.Test.YthmdblcgiljhpaaWInv
import Derived.Test.YthmdblcgiljhpaaWInvWords
import Derived.Test.YthmdblcgiljhpaaWGuard
import Derived.Test.YthmdblcgiljhpaaWNEv
import Derived.Test.YthmdblcgiljhpaaWMore
namespace Go.Proofs.Ythmdblcgiljhpaa.PFnSecondsOf
open Go.RowKit Go.Proofs.YthmdblcgiljhpaaW.PrintWords Go.Proofs.YthmdblcgiljhpaaW.PrintLast Go.Proofs.YthmdblcgiljhpaaW.PrintMore
attribute [local go_sem] max2_int min2_int max_two min_two max_three min_three max_four min_four   -- for this text's walks alone
set_option linter.unusedVariables false
set_option linter.unusedSimpArgs false
/-- Marks, as the bits of a number. -/
def mb (n b : Nat) : Array Bool := ⟨(List.range n).map fun j => b.testBit j⟩



def errW : Option Int → Value
 | none => .nilIface
 | some c => .iface 0 (.int .i64 c)
theorem errW_none : errW none = .nilIface := rfl
theorem errW_some (c : Int) : errW (some c) = .iface 0 (.int .i64 c) := rfl

theorem info3 : (Try.prog.info? 3).map (fun i => (i.zero, i.size, i.bytes)) = some (some (.int .i64 0), 1, 8) := by kernel_rfl
theorem info5 : (Try.prog.info? 5).map (fun i => (i.zero, i.size, i.bytes)) = some (some (.int .u8 0), 1, 1) := by kernel_rfl
-- the values' own types

end Go.Proofs.Ythmdblcgiljhpaa.PFnSecondsOf
