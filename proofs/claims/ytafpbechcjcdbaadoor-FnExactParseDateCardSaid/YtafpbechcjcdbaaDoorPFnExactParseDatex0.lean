-- Written by a program of this session (wip/tool/myprint.py) out of the translation.
import Derived.Lib.LaidU8
import Derived.FnData
import Derived.ChangeArms
import Derived.Test.YtafpbechcjcdbaaDoorProg
import Derived.Below
import Derived.Deep.Draws
import Derived.Deep.AppendLies
import Derived.Maps.AppendAt
import Derived.OwnWalk
import Derived.Laws.BytesArg
import Derived.Laws.MakeOwn
import Derived.Laws.OwnMore
import Derived.Deep.OwnRows
import Derived.Tactics
import Derived.Lib.ConvBytes
import Derived.Laws.Slices
import Derived.WalkKit
import Derived.KernelRfl
import Derived.RowKit3
import Derived.Deep.LoopGhost
import Derived.Deep.QuietTactic
import Derived.BigQuiet
import Derived.WideLaws
import Derived.Deep.DeepCutAuto
import Derived.Deep.CutBlock
import Derived.Deep.RegionHeld3
import Derived.Laws.Rows
import Derived.Lib.AppendStr
import Derived.ArgAppend
import Derived.Laws.IdiomCopy
import Derived.OrdersHeld
import Derived.Laws.BitsLemmas
import Derived.RowKit
import Derived.Test.YtafpbechcjcdbaaDoorIh
import Derived.Test.YtafpbechcjcdbaaDoorVFnExactParseDate
namespace Go.Proofs.YtafpbechcjcdbaaDoor.PFnExactParseDate
open Go.RowKit Go.Proofs.YtafpbechcjcdbaaDoorW.PrintWords Go.Proofs.YtafpbechcjcdbaaDoorW.PrintLast Go.Proofs.YtafpbechcjcdbaaDoorW.PrintMore
attribute [local go_sem] max2_int min2_int max_two min_two max_three min_three max_four min_four   -- for this text's walks alone
set_option linter.unusedVariables false
set_option linter.unusedSimpArgs false
/-- Marks, as the bits of a number. -/
def mb (n b : Nat) : Array Bool := ⟨(List.range n).map fun j => b.testBit j⟩



/-- The names of the months, as the variable holds them. -/
def monL : List ByteArray := [⟨#[74, 97, 110]⟩, ⟨#[70, 101, 98]⟩, ⟨#[77, 97, 114]⟩, ⟨#[65, 112, 114]⟩, ⟨#[77, 97, 121]⟩, ⟨#[74, 117, 110]⟩, ⟨#[74, 117, 108]⟩, ⟨#[65, 117, 103]⟩, ⟨#[83, 101, 112]⟩, ⟨#[79, 99, 116]⟩, ⟨#[78, 111, 118]⟩, ⟨#[68, 101, 99]⟩]
theorem monL_len : (monL.length : Int) = 12 := rfl
/-- The variable's cells hold the names. -/
def AmbM (w : World) : Prop := ∀ i : Nat, i < 12 → w.cell? ⟨0, i, none⟩ = some (.string (monL.getD i ByteArray.empty))
theorem AmbM.lt {w : World} (h : AmbM w) : 0 < w.heap.size := World.block_lt_of_cell? w _ (h 0 (by omega))
theorem AmbM.below {w w' : World} (h : AmbM w) (hb : Below w.heap.size w w') : AmbM w' := fun i hi => (hb.cell h.lt).trans (h i hi)
theorem AmbM.drewN {w : World} (h : AmbM w) (n : Nat) : AmbM (w.drewN n) := h
theorem AmbM.drew {w : World} (h : AmbM w) : AmbM w.drew := h
theorem AmbM.alloc {w : World} (h : AmbM w) (b : Obj) : AmbM (w.alloc b) := h.below ((Below.refl _ _).alloc (Nat.le_refl _) _)
theorem AmbM.read {w : World} (h : AmbM w) : Kd.C Kd.string w (some ⟨0, 0, none⟩) monL.length monL := by
  refine Kd.C_of_reads (d := ByteArray.empty) (h1 := fun _ => rfl) ⟨rfl, by decide, fun _ => ⟨_, rfl, fun j hj => ?_⟩⟩
  have e : (⟨0, 0, none⟩ : Addr).add j = ⟨0, j, none⟩ := by
    unfold Addr.add
    split
    · rename_i q
      rw [q]
    · simp
  rw [e]
  exact h j hj
theorem AmbM.of_laid {w : World} {l : List (String × DataW Unit)} (h : laidMet Tryd.prog l w) (hm : ("loop.example/mailwire/impl.monthNames", (DataW.agg (monL.map fun x => .lit (.string x.data.toList)) : DataW Unit)) ∈ l) : AmbM w := by
  obtain ⟨g, t, cs, fuel, p, hg, ht, hv, htr⟩ := Lib.laidMet.reads h hm
  obtain rfl : 0 = g := Option.some.inj ((show Tryd.prog.globalNamed "loop.example/mailwire/impl.monthNames" = some 0 by kernel_rfl).symm.trans hg)
  obtain rfl : 40 = t := Option.some.inj ((show (Tryd.prog.globals[0]?).map (·.type) = some 40 by kernel_rfl).symm.trans ht)
  intro i hi
  obtain ⟨f2, d, q, hd, hx⟩ := Lib.array_elem Tryd.underlying40 htr i hi
  rw [show Tryd.prog.cellsOf 9 = 1 by kernel_rfl, Nat.mul_one] at hx
  obtain ⟨z, hc, he, _⟩ := DataW.trod_string Tryd.underlying9 hx
  have hcell := World.var?_cell hg hv i
  have h1 : cs.toList[i]? = some (.string z) := by
    have := congrArg (·[0]?) hc
    simpa [List.getElem?_take, List.getElem?_drop] using this
  have hi2 : i < monL.length := hi
  rw [List.getElem?_map, List.getElem?_eq_getElem hi2, Option.map_some] at hd
  obtain rfl := Option.some.inj hd
  have h2 : monL[i].data.toList = z.data.toList := by
    have e := congrArg Prod.fst he
    simpa using e
  have h3 : monL[i] = z := ByteArray.ext (Array.toList_inj.1 h2)
  rw [hcell, List.getD_eq_getElem?_getD, List.getElem?_eq_getElem hi2, Option.getD_some, h3]
  simpa using h1

def errW : Option Int → Value
 | none => .nilIface
 | some c => .iface 0 (.int .i64 c)
theorem errW_none : errW none = .nilIface := rfl
theorem errW_some (c : Int) : errW (some c) = .iface 0 (.int .i64 c) := rfl

theorem info3 : (Tryd.prog.info? 3).map (fun i => (i.zero, i.size, i.bytes)) = some (some (.int .i64 0), 1, 8) := by kernel_rfl
theorem info9 : (Tryd.prog.info? 9).map (fun i => (i.zero, i.size, i.bytes)) = some (some (.string ⟨#[]⟩), 1, 16) := by kernel_rfl
-- the values' own types

end Go.Proofs.YtafpbechcjcdbaaDoor.PFnExactParseDate
