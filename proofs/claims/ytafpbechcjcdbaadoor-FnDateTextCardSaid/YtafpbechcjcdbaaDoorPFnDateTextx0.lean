-- By a program of this session.
import Derived.Lib.LaidU8
import Derived.FnData
import Derived.ChangeArms
import Derived.Test.YtafpbechcjcdbaaDoorProg
import Derived.Below
import Derived.Deep.Draws
import Derived.Deep.AppendLies
import Derived.Maps.AppendAt
import Derived.OwnWalk
import Derived.Laws.BytesArg
import Derived.Laws.MakeOwn
import Derived.Laws.OwnMore
import Derived.Deep.OwnRows
import Derived.Tactics
import Derived.Lib.ConvBytes
import Derived.Laws.Slices
import Derived.WalkKit
import Derived.KernelRfl
import Derived.RowKit3
import Derived.Deep.LoopGhost
import Derived.Deep.QuietTactic
import Derived.BigQuiet
import Derived.WideLaws
import Derived.Deep.DeepCutAuto
import Derived.Deep.CutBlock
import Derived.Deep.RegionHeld3
import Derived.Laws.Rows
import Derived.Lib.AppendStr
import Derived.ArgAppend
import Derived.Laws.IdiomCopy
import Derived.OrdersHeld
import Derived.Laws.BitsLemmas
import Derived.RowKit
import Derived.Test.YtafpbechcjcdbaaDoorIh
import Derived.Test.YtafpbechcjcdbaaDoorVFnDateText
namespace Go.Proofs.YtafpbechcjcdbaaDoor.PFnDateText
open Go.RowKit Go.Proofs.YtafpbechcjcdbaaDoorW.PrintWords Go.Proofs.YtafpbechcjcdbaaDoorW.PrintLast Go.Proofs.YtafpbechcjcdbaaDoorW.PrintMore
attribute [local go_sem] max2_int min2_int max_two min_two max_three min_three max_four min_four
set_option linter.unusedVariables false
set_option linter.unusedSimpArgs false
def mb (n b : Nat) : Array Bool := ⟨(List.range n).map fun j => b.testBit j⟩
def wpO_ (P : Program) (md : Region.Mode) (ops : Array Oper) (Q : Exit → Act → World → Prop) (S : World → Prop) (ds : List Nat) (_ : Nat) (_ : List (Nat × Nat × Nat)) (fuel : Nat) (l : Array Bool) (a : Act) (w : World) : Prop := wpAnyLast P md ops Q S ds fuel l a w
section
variable {P : Program} {ops : Array Oper} {Q : Exit → Act → World → Prop} {S : World → Prop} {ds : List Nat} {md : Region.Mode} {T : Bool × List (List Nat × List Nat)} {B : List Nat} {n i b k : Nat} {r : List (Nat × Nat × Nat)} {l : Array Bool} {oi : Oper} {v : Value} {fuel : Nat} {a : Act} {w : World}
theorem ord_ (n : Nat) (r : List (Nat × Nat × Nat)) (h : wpO_ P md ops Q S ds n r fuel l a w) : wpAnyLast P md ops Q S ds fuel l a w := h
theorem sp_ (HT : Aside0 (rtab md ops = T)) (hi : ops[i]? = some oi) (hN : oi.dst = some k) (hc : anyT T l.toList (mb n b).toList i = true)
    (hQ : ∀ c a w, Q (.panic c) (a.put oi.dst v) w → Q (.panic c) a w) (hy : Yields P ops oi v a) {a' : Act} (ha : a.put (some k) v = a') (h : wpO_ P md ops Q S ds n r fuel (mb n b) a' w) : wpO_ P md ops Q S ds n ((i, k, b) :: r) (fuel + 1) l a w :=
  pure_ _ hi hN (any_of HT.out hc) hQ hy ha h
theorem st_ (HT : Aside0 (rtab md ops = T)) (HW : Aside0 (waitsOk T.2 B = true)) (hi : ops[i]? = some oi) (hN : oi.dst = some k) (hc : takeW T B ds l.toList (mb n b).toList i = true)
    (hQ : ∀ c a w, Q (.panic c) (a.put oi.dst v) w → Q (.panic c) a w) (hy : YieldsIf P ops S oi v a) (hS : S w) {a' : Act} (ha : a.put (some k) v = a') (h : wpO_ P md ops Q S ds n r fuel (mb n b) a' w) : wpO_ P md ops Q S ds n ((i, k, b) :: r) (fuel + 1) l a w :=
  take_ _ hi hN (take_ofW HT.out HW.out hc) hQ hy hS ha h
end
theorem c7_ {W : World} {g : Nat} {t : TypeId} {a0 a1 a2 a3 a4 a5 a6 : Value} (h : W.heap[g]? = some (.cells #[a0, a1, a2, a3, a4, a5, a6] t (0, 0))) : W.cell? ⟨g, 0, none⟩ = some a0 ∧ W.cell? ⟨g, 1, none⟩ = some a1 ∧ W.cell? ⟨g, 2, none⟩ = some a2 ∧ W.cell? ⟨g, 3, none⟩ = some a3 ∧ W.cell? ⟨g, 4, none⟩ = some a4 ∧ W.cell? ⟨g, 5, none⟩ = some a5 ∧ W.cell? ⟨g, 6, none⟩ = some a6 :=
  ⟨(blk_cell h 0).trans rfl, (blk_cell h 1).trans rfl, (blk_cell h 2).trans rfl, (blk_cell h 3).trans rfl, (blk_cell h 4).trans rfl, (blk_cell h 5).trans rfl, (blk_cell h 6).trans rfl⟩
theorem f7_ {W : World} {g : Nat} {t : TypeId} {cs : Array Value} (h : W.heap[g]? = some (.cells cs t (0, 0))) : W.frozen? ⟨g, 0, none⟩ = false ∧ W.frozen? ⟨g, 1, none⟩ = false ∧ W.frozen? ⟨g, 2, none⟩ = false ∧ W.frozen? ⟨g, 3, none⟩ = false ∧ W.frozen? ⟨g, 4, none⟩ = false ∧ W.frozen? ⟨g, 5, none⟩ = false ∧ W.frozen? ⟨g, 6, none⟩ = false :=
  ⟨blk_frozen h 0, blk_frozen h 1, blk_frozen h 2, blk_frozen h 3, blk_frozen h 4, blk_frozen h 5, blk_frozen h 6⟩
theorem p7_ {W : World} {g : Nat} {t : TypeId} {o0 o1 o2 o3 o4 o5 o6 v0 v1 v2 v3 v4 v5 v6 : Value} (hx : W.heap[g]? = some (.cells #[o0, o1, o2, o3, o4, o5, o6] t (0, 0))) :
    (((((((W.setCell ⟨g, 0, none⟩ v0).setCell ⟨g, 1, none⟩ v1).setCell ⟨g, 2, none⟩ v2).setCell ⟨g, 3, none⟩ v3).setCell ⟨g, 4, none⟩ v4).setCell ⟨g, 5, none⟩ v5).setCell ⟨g, 6, none⟩ v6).heap[g]? = some (.cells #[v0, v1, v2, v3, v4, v5, v6] t (0, 0)) :=
  blk_put (cs := #[v0, v1, v2, v3, v4, v5, o6]) (blk_put (cs := #[v0, v1, v2, v3, v4, o5, o6]) (blk_put (cs := #[v0, v1, v2, v3, o4, o5, o6]) (blk_put (cs := #[v0, v1, v2, o3, o4, o5, o6]) (blk_put (cs := #[v0, v1, o2, o3, o4, o5, o6]) (blk_put (cs := #[v0, o1, o2, o3, o4, o5, o6]) (blk_put (cs := #[o0, o1, o2, o3, o4, o5, o6]) hx 0 _ rfl) 1 _ rfl) 2 _ rfl) 3 _ rfl) 4 _ rfl) 5 _ rfl) 6 _ rfl
theorem q7_ {W : World} {g g' : Nat} {t : TypeId} {cs : Array Value} {v0 v1 v2 v3 v4 v5 v6 : Value} (hx : W.heap[g]? = some (.cells cs t (0, 0))) (hn : g ≠ g') :
    (((((((W.setCell ⟨g', 0, none⟩ v0).setCell ⟨g', 1, none⟩ v1).setCell ⟨g', 2, none⟩ v2).setCell ⟨g', 3, none⟩ v3).setCell ⟨g', 4, none⟩ v4).setCell ⟨g', 5, none⟩ v5).setCell ⟨g', 6, none⟩ v6).heap[g]? = some (.cells cs t (0, 0)) :=
  blk_far (blk_far (blk_far (blk_far (blk_far (blk_far (blk_far hx hn _) hn _) hn _) hn _) hn _) hn _) hn _
def monL : List ByteArray := [⟨#[74, 97, 110]⟩, ⟨#[70, 101, 98]⟩, ⟨#[77, 97, 114]⟩, ⟨#[65, 112, 114]⟩, ⟨#[77, 97, 121]⟩, ⟨#[74, 117, 110]⟩, ⟨#[74, 117, 108]⟩, ⟨#[65, 117, 103]⟩, ⟨#[83, 101, 112]⟩, ⟨#[79, 99, 116]⟩, ⟨#[78, 111, 118]⟩, ⟨#[68, 101, 99]⟩]
theorem monL_len : (monL.length : Int) = 12 := rfl
def AmbM (w : World) : Prop := ∀ i : Nat, i < 12 → w.cell? ⟨0, i, none⟩ = some (.string (monL.getD i ByteArray.empty))
theorem AmbM.lt {w : World} (h : AmbM w) : 0 < w.heap.size := World.block_lt_of_cell? w _ (h 0 (by omega))
theorem AmbM.below {w w' : World} (h : AmbM w) (hb : Below w.heap.size w w') : AmbM w' := fun i hi => (hb.cell h.lt).trans (h i hi)
theorem AmbM.drewN {w : World} (h : AmbM w) (n : Nat) : AmbM (w.drewN n) := h
theorem AmbM.drew {w : World} (h : AmbM w) : AmbM w.drew := h
theorem AmbM.alloc {w : World} (h : AmbM w) (b : Obj) : AmbM (w.alloc b) := h.below ((Below.refl _ _).alloc (Nat.le_refl _) _)
theorem AmbM.read {w : World} (h : AmbM w) : Kd.C Kd.string w (some ⟨0, 0, none⟩) monL.length monL := by
  refine Kd.C_of_reads (d := ByteArray.empty) (h1 := fun _ => rfl) ⟨rfl, by decide, fun _ => ⟨_, rfl, fun j hj => ?_⟩⟩
  have e : (⟨0, 0, none⟩ : Addr).add j = ⟨0, j, none⟩ := by
    unfold Addr.add
    split
    · rename_i q
      rw [q]
    · simp
  rw [e]
  exact h j hj
theorem AmbM.of_laid {w : World} {l : List (String × DataW Unit)} (h : laidMet Tryd.prog l w) (hm : ("loop.example/mailwire/impl.monthNames", (DataW.agg (monL.map fun x => .lit (.string x.data.toList)) : DataW Unit)) ∈ l) : AmbM w := by
  obtain ⟨g, t, cs, fuel, p, hg, ht, hv, htr⟩ := Lib.laidMet.reads h hm
  obtain rfl : 0 = g := Option.some.inj ((show Tryd.prog.globalNamed "loop.example/mailwire/impl.monthNames" = some 0 by kernel_rfl).symm.trans hg)
  obtain rfl : 40 = t := Option.some.inj ((show (Tryd.prog.globals[0]?).map (·.type) = some 40 by kernel_rfl).symm.trans ht)
  intro i hi
  obtain ⟨f2, d, q, hd, hx⟩ := Lib.array_elem Tryd.underlying40 htr i hi
  rw [show Tryd.prog.cellsOf 9 = 1 by kernel_rfl, Nat.mul_one] at hx
  obtain ⟨z, hc, he, _⟩ := DataW.trod_string Tryd.underlying9 hx
  have hcell := World.var?_cell hg hv i
  have h1 : cs.toList[i]? = some (.string z) := by
    have := congrArg (·[0]?) hc
    simpa [List.getElem?_take, List.getElem?_drop] using this
  have hi2 : i < monL.length := hi
  rw [List.getElem?_map, List.getElem?_eq_getElem hi2, Option.map_some] at hd
  obtain rfl := Option.some.inj hd
  have h2 : monL[i].data.toList = z.data.toList := by
    have e := congrArg Prod.fst he
    simpa using e
  have h3 : monL[i] = z := ByteArray.ext (Array.toList_inj.1 h2)
  rw [hcell, List.getD_eq_getElem?_getD, List.getElem?_eq_getElem hi2, Option.getD_some, h3]
  simpa using h1
def errW : Option Int → Value
 | none => .nilIface
 | some c => .iface 0 (.int .i64 c)
theorem errW_none : errW none = .nilIface := rfl
theorem errW_some (c : Int) : errW (some c) = .iface 0 (.int .i64 c) := rfl
theorem info3 : (Tryd.prog.info? 3).map (fun i => (i.zero, i.size, i.bytes)) = some (some (.int .i64 0), 1, 8) := by kernel_rfl
theorem info5 : (Tryd.prog.info? 5).map (fun i => (i.zero, i.size, i.bytes)) = some (some (.int .u8 0), 1, 1) := by kernel_rfl
theorem info9 : (Tryd.prog.info? 9).map (fun i => (i.zero, i.size, i.bytes)) = some (some (.string ⟨#[]⟩), 1, 16) := by kernel_rfl
-- the values' own types
end Go.Proofs.YtafpbechcjcdbaaDoor.PFnDateText
