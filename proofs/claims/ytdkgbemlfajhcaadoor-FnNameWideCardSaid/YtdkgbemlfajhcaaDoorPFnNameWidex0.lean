-- Written by a program of this session (wip/tool/myprint.py) out of the translation.
import Derived.Test.YtdkgbemlfajhcaaDoorProg
import Derived.Below
import Derived.Deep.Draws
import Derived.Deep.AppendLies
import Derived.Maps.AppendAt
import Derived.OwnWalk
import Derived.Laws.BytesArg
import Derived.Laws.MakeOwn
import Derived.Laws.OwnMore
import Derived.Deep.OwnRows
import Derived.Tactics
import Derived.Lib.ConvBytes
import Derived.Laws.Slices
import Derived.WalkKit
import Derived.KernelRfl
import Derived.RowKit3
import Derived.Deep.LoopGhost
import Derived.Deep.QuietTactic
import Derived.BigQuiet
import Derived.WideLaws
import Derived.Deep.DeepCutAuto
import Derived.Deep.CutBlock
import Derived.Deep.RegionHeld3
import Derived.Laws.Rows
import Derived.Lib.AppendStr
import Derived.ArgAppend
import Derived.Laws.IdiomCopy
import Derived.OrdersHeld
import Derived.Laws.BitsLemmas
import Derived.RowKit
import Derived.Test.YtdkgbemlfajhcaaDoorId
import Derived.Test.YtdkgbemlfajhcaaDoorWWords
import Derived.Test.YtdkgbemlfajhcaaDoorWLast
import Derived.Test.YtdkgbemlfajhcaaDoorWTab
import Derived.Test.YtdkgbemlfajhcaaDoorWFour
import Derived.Test.YtdkgbemlfajhcaaDoorWQPut
import Derived.Test.YtdkgbemlfajhcaaDoorWApart
import Derived.Test.YtdkgbemlfajhcaaDoorWArr
import Derived.Test.YtdkgbemlfajhcaaDoorWZeros
import Derived.Test.YtdkgbemlfajhcaaDoorWFoot
import Derived.Test.YtdkgbemlfajhcaaDoorWKept
import Derived.Test.YtdkgbemlfajhcaaDoorWShare
import Derived.Test.YtdkgbemlfajhcaaDoorWN
import Derived.Test.YtdkgbemlfajhcaaDoorWFootNe
import Derived.Test.YtdkgbemlfajhcaaDoorWAt
import Derived.Test.YtdkgbemlfajhcaaDoorWEqStruct
import Derived.Test.YtdkgbemlfajhcaaDoorWRepsOne
import Derived.Test.YtdkgbemlfajhcaaDoorWInv
import Derived.Test.YtdkgbemlfajhcaaDoorWInvWords
import Derived.Test.YtdkgbemlfajhcaaDoorWGuard
import Derived.Test.YtdkgbemlfajhcaaDoorWNEv
import Derived.Test.YtdkgbemlfajhcaaDoorWMore
namespace Go.Proofs.YtdkgbemlfajhcaaDoor.PFnNameWide
open Go.RowKit Go.Proofs.YtdkgbemlfajhcaaDoorW.PrintWords Go.Proofs.YtdkgbemlfajhcaaDoorW.PrintLast Go.Proofs.YtdkgbemlfajhcaaDoorW.PrintMore
attribute [local go_sem] max2_int min2_int max_two min_two max_three min_three max_four min_four   -- for this text's walks alone
set_option linter.unusedVariables false
set_option linter.unusedSimpArgs false



/-- The cell that the search of texts reads holds some int. -/
def AmbM (w : World) : Prop := ∃ m, w.cell? ⟨0, 0, none⟩ = some (.int .i64 m)
theorem AmbM.of_block {w w' : World} (h : AmbM w) (hb : w'.heap[0]? = w.heap[0]?) : AmbM w' := by
 obtain ⟨m, hm⟩ := h
 refine ⟨m, ?_⟩
 unfold World.cell? at hm ⊢
 rw [hb]
 exact hm
theorem AmbM.lt {w : World} (h : AmbM w) : 0 < w.heap.size := by
 obtain ⟨m, hm⟩ := h
 by_cases q : 0 < w.heap.size
 · exact q
 · unfold World.cell? at hm
   have e : w.heap[0]? = none := Array.getElem?_eq_none (by omega)
   simp only [e] at hm
   cases hm
theorem AmbM.below {w w' : World} (h : AmbM w) (hb : Below w.heap.size w w') : AmbM w' := h.of_block (hb.block 0 h.lt)
theorem AmbM.drewN {w : World} (h : AmbM w) (n : Nat) : AmbM (w.drewN n) := h
theorem AmbM.drew {w : World} (h : AmbM w) : AmbM w.drew := h
theorem AmbM.alloc {w : World} (h : AmbM w) (b : Obj) : AmbM (w.alloc b) := h.below ((Below.refl _ _).alloc (Nat.le_refl _) _)

def errW : Option Int → Value
 | none => .nilIface
 | some c => .iface 0 (.int .i64 c)
theorem errW_none : errW none = .nilIface := rfl
theorem errW_some (c : Int) : errW (some c) = .iface 0 (.int .i64 c) := rfl

theorem info3 : (Tryd.prog.info? 3).map (fun i => (i.zero, i.size, i.bytes)) = some (some (.int .i64 0), 1, 8) := by kernel_rfl
theorem info5 : (Tryd.prog.info? 5).map (fun i => (i.zero, i.size, i.bytes)) = some (some (.int .u8 0), 1, 1) := by kernel_rfl
theorem info9 : (Tryd.prog.info? 9).map (fun i => (i.zero, i.size, i.bytes)) = some (some (.string ⟨#[]⟩), 1, 16) := by kernel_rfl
-- the values' own types

end Go.Proofs.YtdkgbemlfajhcaaDoor.PFnNameWide
