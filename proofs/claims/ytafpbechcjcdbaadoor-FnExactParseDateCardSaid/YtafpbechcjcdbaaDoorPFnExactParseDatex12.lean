-- Written by a program of this session (wip/tool/myprint.py) out of the translation.
import Derived.Test.YtafpbechcjcdbaaDoorPFnExactParseDatex0
import Derived.Test.YtafpbechcjcdbaaDoorPFnExactParseDatex8
import Derived.Test.YtafpbechcjcdbaaDoorPFnExactParseDatex9
import Derived.Test.YtafpbechcjcdbaaDoorPFnExactParseDatex10
import Derived.Test.YtafpbechcjcdbaaDoorPFnExactParseDatex11
namespace Go.Proofs.YtafpbechcjcdbaaDoor.PFnExactParseDate
open Go.RowKit Go.Proofs.YtafpbechcjcdbaaDoorW.PrintWords Go.Proofs.YtafpbechcjcdbaaDoorW.PrintLast Go.Proofs.YtafpbechcjcdbaaDoorW.PrintMore
open Go.Proofs.YtafpbechcjcdbaaDoorW.PrintWords renaming blk_cell → Ba, blk_frozen → Bb, pw_below_drewN → Bc, below_drew1 → Bd, below_alloc → Be, blk_drewN → Bf, blk_alloc → Bg, blk_drew → Bh
open Bool renaming true → Y, false → X
open List renaming setIfInBounds_toArray → sA, set_cons_zero → sZ, set_cons_succ → sS
attribute [local go_sem] max2_int min2_int max_two min_two max_three min_three max_four min_four   -- for this text's walks alone
set_option linter.unusedVariables false
set_option linter.unusedSimpArgs false

theorem more_ {P : Program} {ops : Array Oper} {Q : Exit → Act → World → Prop} {md : Region.Mode} {S S' : World → Prop} (hSS : ∀ w, S' w → S w) : ∀ (fuel : Nat) (l : Array Bool) (a : Act) (w : World), S' w → (S' w → wpAnyLast P md ops Q S' [] fuel l a w) → wpAnyLast P md ops Q S [] fuel l a w
 | 0, _, _, _, hS, h => h hS
 | fuel + 1, l, a, w, hS, h => by
  have h0 := h hS
  refine ⟨h0.1, fun i hi => wpOp_mono (fun a' w' h' => ?_) (h0.2 i hi)⟩
  have hS' : S' w' := h'.1 (by simp) hS
  exact ⟨fun _ _ => hSS _ hS', more_ hSS fuel _ _ _ hS' (fun _ => h'.2)⟩
/-! ### spec_ParseDate: function 15 -/
mutual
def spec_ParseDate.j0 : Nat → ByteArray → ByteArray → Bool → Option (Int × Int × Int × Int × Int × Int × Int × Bool)
 | 0, _, _, _ => none
 | k + 1, x0, x4, x7 => (spec_l2Parts.f k x0 32).bind fun t189 => (spec_ParseDate.l0 k x4 x7 (([] : List ByteArray)) t189 0)
def spec_ParseDate.l0 : Nat → ByteArray → Bool → List ByteArray → List ByteArray → Int → Option (Int × Int × Int × Int × Int × Int × Int × Bool)
 | 0, _, _, _, _, _ => none
 | k + 1, x4, x7, x8, x9, x10 => if x10 < (x9.length : Int) then (if 0 ≤ x10 then (if (rdOf ByteArray.empty x9 x10).toList = ([] : List UInt8) then (spec_ParseDate.l0 k x4 x7 x8 x9 (wrap64 (x10 + 1))) else (if x8.length < 8796093022208 then (spec_ParseDate.l0 k x4 x7 (x8 ++ [rdOf ByteArray.empty x9 x10]) x9 (wrap64 (x10 + 1))) else (none))) else (none)) else (if (x8.length : Int) = 5 then (if 0 < (x8.length : Int) then ((spec_l4Digits.f k (rdOf ByteArray.empty x8 0) 1 2).bind fun bt199 => (spec_ParseDate.l1 k x4 x7 x8 bt199.2 0 0 0 bt199.1 0 0 0 0)) else (none)) else (some (0, 0, 0, 0, 0, 0, 0, false)))
def spec_ParseDate.l1 : Nat → ByteArray → Bool → List ByteArray → Bool → Int → Int → Int → Int → Int → Int → Int → Int → Option (Int × Int × Int × Int × Int × Int × Int × Bool)
 | 0, _, _, _, _, _, _, _, _, _, _, _, _ => none
 | k + 1, x4, x7, x8, x13, x14, x198000, x198001, x198002, x198003, x198004, x198005, x198006 => if x14 < 12 then (if 1 < (x8.length : Int) then ((spec_l4Months.f).bind fun t202 => (if 0 ≤ x14 then (if x14 < (t202.length : Int) then ((spec_SameText.f (rdOf ByteArray.empty x8 1) (rdOf ByteArray.empty t202 x14)).bind fun t206 => (if t206 = true then (spec_ParseDate.l1 k x4 x7 x8 x13 (wrap64 (x14 + 1)) x198000 (wrap64 (x14 + 1)) x198002 x198003 x198004 x198005 x198006) else (spec_ParseDate.l1 k x4 x7 x8 x13 (wrap64 (x14 + 1)) x198000 x198001 x198002 x198003 x198004 x198005 x198006))) else (none)) else (none))) else (none)) else (if 2 < (x8.length : Int) then ((spec_l4Digits.f k (rdOf ByteArray.empty x8 2) 4 4).bind fun bt208 => (if 3 < (x8.length : Int) then ((spec_l4Time.f k (rdOf ByteArray.empty x8 3) bt208.1 x198001 x198002 x198003 x198004 x198005 x198006).bind fun bt211 => (if 4 < (x8.length : Int) then ((spec_l4Offset.f k (rdOf ByteArray.empty x8 4)).bind fun bt220 => (if x13 = true then (if bt208.2 = true then (if bt211.2.2.2.2.2.2.2 = true then (if bt220.2 = true then ((spec_DateValid.f k bt211.1 bt211.2.1 bt211.2.2.1 bt211.2.2.2.1 bt211.2.2.2.2.1 bt211.2.2.2.2.2.1 bt220.1).bind fun t222 => (if t222 = true then (if x7 = true then ((spec_WeekdayOf.f k bt211.1 bt211.2.1 bt211.2.2.1 bt211.2.2.2.1 bt211.2.2.2.2.1 bt211.2.2.2.2.2.1 bt220.1).bind fun t223 => ((spec_SameText.f x4 t223).bind fun t224 => (if t224 = true then (some (bt211.1, bt211.2.1, bt211.2.2.1, bt211.2.2.2.1, bt211.2.2.2.2.1, bt211.2.2.2.2.2.1, bt220.1, true)) else (some (0, 0, 0, 0, 0, 0, 0, false))))) else (some (bt211.1, bt211.2.1, bt211.2.2.1, bt211.2.2.2.1, bt211.2.2.2.2.1, bt211.2.2.2.2.2.1, bt220.1, true))) else (some (0, 0, 0, 0, 0, 0, 0, false)))) else (some (0, 0, 0, 0, 0, 0, 0, false))) else (some (0, 0, 0, 0, 0, 0, 0, false))) else (some (0, 0, 0, 0, 0, 0, 0, false))) else (some (0, 0, 0, 0, 0, 0, 0, false)))) else (none))) else (none))) else (none))
end
def spec_ParseDate.f (k : Nat) (a0 : ByteArray) : Option (Int × Int × Int × Int × Int × Int × Int × Bool) := (spec_TextValid.f k a0).bind fun t181 => (if t181 = true then ((spec_l2Cut.f k a0 44).bind fun bt182 => (if bt182.2.2 = true then ((spec_l2Trim.f k bt182.1).bind fun t185 => (spec_ParseDate.j0 k bt182.2.1 t185 bt182.2.2)) else (spec_ParseDate.j0 k a0 (⟨#[]⟩ : ByteArray) bt182.2.2))) else (some (0, 0, 0, 0, 0, 0, 0, false)))
theorem spec_ParseDate.mono_l : ∀ k, (∀ y0 y1 y2, LeO (spec_ParseDate.j0 k y0 y1 y2) (spec_ParseDate.j0 (k + 1) y0 y1 y2)) ∧ (∀ y0 y1 y2 y3 y4, LeO (spec_ParseDate.l0 k y0 y1 y2 y3 y4) (spec_ParseDate.l0 (k + 1) y0 y1 y2 y3 y4)) ∧ (∀ y0 y1 y2 y3 y4 y5 y6 y7 y8 y9 y10 y11, LeO (spec_ParseDate.l1 k y0 y1 y2 y3 y4 y5 y6 y7 y8 y9 y10 y11) (spec_ParseDate.l1 (k + 1) y0 y1 y2 y3 y4 y5 y6 y7 y8 y9 y10 y11))
 | 0 => ⟨fun _ _ _ r h => by simp [spec_ParseDate.j0] at h, fun _ _ _ _ _ r h => by simp [spec_ParseDate.l0] at h, fun _ _ _ _ _ _ _ _ _ _ _ _ r h => by simp [spec_ParseDate.l1] at h⟩
 | k + 1 => by
  obtain ⟨ih0, ih1, ih2⟩ := spec_ParseDate.mono_l k
  refine ⟨?_, ?_, ?_⟩
  ·intro y0 y1 y2
   unfold spec_ParseDate.j0
   repeat' first
   | (with_reducible exact ih0 _ _ _)
   | (with_reducible exact ih1 _ _ _ _ _)
   | (with_reducible exact ih2 _ _ _ _ _ _ _ _ _ _ _ _)
   | (with_reducible exact spec_DateValid.mono _ _ _ _ _ _ _ _)
   | (with_reducible exact spec_TextValid.mono _ _)
   | (with_reducible exact spec_WeekdayOf.mono _ _ _ _ _ _ _ _)
   | (with_reducible exact spec_l2Cut.mono _ _ _)
   | (with_reducible exact spec_l2Parts.mono _ _ _)
   | (with_reducible exact spec_l2Trim.mono _ _)
   | (with_reducible exact spec_l4Digits.mono _ _ _ _)
   | (with_reducible exact spec_l4Offset.mono _ _)
   | (with_reducible exact spec_l4Time.mono _ _ _ _ _ _ _ _ _)
   | (with_reducible exact LeO.refl _)
   | (with_reducible exact LeO.none _)
   | (with_reducible refine LeO.ite ?_ ?_)
   | (with_reducible refine LeO.bind ?_ (fun _ => ?_))
  ·intro y0 y1 y2 y3 y4
   unfold spec_ParseDate.l0
   repeat' first
   | (with_reducible exact ih0 _ _ _)
   | (with_reducible exact ih1 _ _ _ _ _)
   | (with_reducible exact ih2 _ _ _ _ _ _ _ _ _ _ _ _)
   | (with_reducible exact spec_DateValid.mono _ _ _ _ _ _ _ _)
   | (with_reducible exact spec_TextValid.mono _ _)
   | (with_reducible exact spec_WeekdayOf.mono _ _ _ _ _ _ _ _)
   | (with_reducible exact spec_l2Cut.mono _ _ _)
   | (with_reducible exact spec_l2Parts.mono _ _ _)
   | (with_reducible exact spec_l2Trim.mono _ _)
   | (with_reducible exact spec_l4Digits.mono _ _ _ _)
   | (with_reducible exact spec_l4Offset.mono _ _)
   | (with_reducible exact spec_l4Time.mono _ _ _ _ _ _ _ _ _)
   | (with_reducible exact LeO.refl _)
   | (with_reducible exact LeO.none _)
   | (with_reducible refine LeO.ite ?_ ?_)
   | (with_reducible refine LeO.bind ?_ (fun _ => ?_))
  intro y0 y1 y2 y3 y4 y5 y6 y7 y8 y9 y10 y11
  unfold spec_ParseDate.l1
  repeat' first
  | (with_reducible exact ih0 _ _ _)
  | (with_reducible exact ih1 _ _ _ _ _)
  | (with_reducible exact ih2 _ _ _ _ _ _ _ _ _ _ _ _)
  | (with_reducible exact spec_DateValid.mono _ _ _ _ _ _ _ _)
  | (with_reducible exact spec_TextValid.mono _ _)
  | (with_reducible exact spec_WeekdayOf.mono _ _ _ _ _ _ _ _)
  | (with_reducible exact spec_l2Cut.mono _ _ _)
  | (with_reducible exact spec_l2Parts.mono _ _ _)
  | (with_reducible exact spec_l2Trim.mono _ _)
  | (with_reducible exact spec_l4Digits.mono _ _ _ _)
  | (with_reducible exact spec_l4Offset.mono _ _)
  | (with_reducible exact spec_l4Time.mono _ _ _ _ _ _ _ _ _)
  | (with_reducible exact LeO.refl _)
  | (with_reducible exact LeO.none _)
  | (with_reducible refine LeO.ite ?_ ?_)
  | (with_reducible refine LeO.bind ?_ (fun _ => ?_))
theorem spec_ParseDate.mono : ∀ a0 k, LeO (spec_ParseDate.f k a0) (spec_ParseDate.f (k + 1) a0) := by
 intro a0 k
 obtain ⟨ih0, ih1, ih2⟩ := spec_ParseDate.mono_l k
 unfold spec_ParseDate.f
 repeat' first
   | (with_reducible exact ih0 _ _ _)
   | (with_reducible exact ih1 _ _ _ _ _)
   | (with_reducible exact ih2 _ _ _ _ _ _ _ _ _ _ _ _)
   | (with_reducible exact spec_DateValid.mono _ _ _ _ _ _ _ _)
   | (with_reducible exact spec_TextValid.mono _ _)
   | (with_reducible exact spec_WeekdayOf.mono _ _ _ _ _ _ _ _)
   | (with_reducible exact spec_l2Cut.mono _ _ _)
   | (with_reducible exact spec_l2Parts.mono _ _ _)
   | (with_reducible exact spec_l2Trim.mono _ _)
   | (with_reducible exact spec_l4Digits.mono _ _ _ _)
   | (with_reducible exact spec_l4Offset.mono _ _)
   | (with_reducible exact spec_l4Time.mono _ _ _ _ _ _ _ _ _)
   | (with_reducible exact LeO.refl _)
   | (with_reducible exact LeO.none _)
   | (with_reducible refine LeO.ite ?_ ?_)
   | (with_reducible refine LeO.bind ?_ (fun _ => ?_))
def spec_ParseDate.T23 : Bool × List (List Nat × List Nat) := (true, [([], []), ([0], [0]), ([1], [1]), ([], []), ([], []), ([3, 4], [3, 4]), ([5], [5]), ([2, 6, 3], [2, 6])])
def spec_ParseDate.B23 : List Nat := [0, 1, 3, 0, 0, 24, 56, 127]
theorem spec_ParseDate.tab23 : rtab .any (opsOf Tryd.f15 23) = spec_ParseDate.T23 := by kernel_rfl
theorem spec_ParseDate.bits23 : waitsOk spec_ParseDate.T23.2 spec_ParseDate.B23 = true := by kernel_rfl
def spec_ParseDate.T27 : Bool × List (List Nat × List Nat) := (true, [([], []), ([0], [0]), ([1], [1]), ([], []), ([2, 3], [2, 3]), ([4], [4]), ([5], [5]), ([5], [5]), ([6, 4, 0, 1, 2, 3, 4, 5, 6], [6]), ([7, 8, 0, 1, 2, 3, 4, 5, 6, 7, 8], [7])])
def spec_ParseDate.B27 : List Nat := [0, 1, 3, 0, 15, 31, 63, 63, 127, 511]
theorem spec_ParseDate.tab27 : rtab .any (opsOf Tryd.f15 27) = spec_ParseDate.T27 := by kernel_rfl
theorem spec_ParseDate.bits27 : waitsOk spec_ParseDate.T27.2 spec_ParseDate.B27 = true := by kernel_rfl
/-- Seven stores in a block. -/
theorem seven_ {W : World} {g : Nat} {t : TypeId} {o0 o1 o2 o3 o4 o5 o6 v0 v1 v2 v3 v4 v5 v6 : Value} (hx : W.heap[g]? = some (.cells #[o0, o1, o2, o3, o4, o5, o6] t (0, 0))) : (((((((W.setCell ⟨g, 0, none⟩ v0).setCell ⟨g, 1, none⟩ v1).setCell ⟨g, 2, none⟩ v2).setCell ⟨g, 3, none⟩ v3).setCell ⟨g, 4, none⟩ v4).setCell ⟨g, 5, none⟩ v5).setCell ⟨g, 6, none⟩ v6).heap[g]? = some (.cells #[v0, v1, v2, v3, v4, v5, v6] t (0, 0)) :=
  blk_put (cs := #[v0, v1, v2, v3, v4, v5, o6]) (blk_put (cs := #[v0, v1, v2, v3, v4, o5, o6]) (blk_put (cs := #[v0, v1, v2, v3, o4, o5, o6]) (blk_put (cs := #[v0, v1, v2, o3, o4, o5, o6]) (blk_put (cs := #[v0, v1, o2, o3, o4, o5, o6]) (blk_put (cs := #[v0, o1, o2, o3, o4, o5, o6]) (blk_put (cs := #[o0, o1, o2, o3, o4, o5, o6]) hx 0 _ rfl) 1 _ rfl) 2 _ rfl) 3 _ rfl) 4 _ rfl) 5 _ rfl) 6 _ rfl
theorem below7_ {w W : World} {g : Nat} {v0 v1 v2 v3 v4 v5 v6 : Value} (hb : Below w.heap.size w W) (hg : w.heap.size ≤ g) : Below w.heap.size w (((((((W.setCell ⟨g, 0, none⟩ v0).setCell ⟨g, 1, none⟩ v1).setCell ⟨g, 2, none⟩ v2).setCell ⟨g, 3, none⟩ v3).setCell ⟨g, 4, none⟩ v4).setCell ⟨g, 5, none⟩ v5).setCell ⟨g, 6, none⟩ v6) :=
  ((((((hb.setCell hg _).setCell hg _).setCell hg _).setCell hg _).setCell hg _).setCell hg _).setCell hg _
theorem put7_ {w W : World} {g : Nat} {t : TypeId} {o0 o1 o2 o3 o4 o5 o6 v0 v1 v2 v3 v4 v5 v6 : Value} (hb : Below w.heap.size w W) (hg : w.heap.size ≤ g) (hx : W.heap[g]? = some (.cells #[o0, o1, o2, o3, o4, o5, o6] t (0, 0))) :
    ∃ V, V = (((((((W.setCell ⟨g, 0, none⟩ v0).setCell ⟨g, 1, none⟩ v1).setCell ⟨g, 2, none⟩ v2).setCell ⟨g, 3, none⟩ v3).setCell ⟨g, 4, none⟩ v4).setCell ⟨g, 5, none⟩ v5).setCell ⟨g, 6, none⟩ v6) ∧ V.heap[g]? = some (.cells #[v0, v1, v2, v3, v4, v5, v6] t (0, 0)) ∧ Below w.heap.size w V ∧
      (∀ g' t' cs, g' ≠ g → W.heap[g']? = some (.cells cs t' (0, 0)) → V.heap[g']? = some (.cells cs t' (0, 0))) ∧ ∀ p : Addr, p.block ≠ g → V.cell? p = W.cell? p :=
  ⟨_, rfl, seven_ hx, below7_ hb hg, fun g' t' cs hn h => blk_far (blk_far (blk_far (blk_far (blk_far (blk_far (blk_far h hn _) hn _) hn _) hn _) hn _) hn _) hn _, fun p hp => by
    have hp2 : g ≠ p.block := fun q => hp q.symm
    rw [World.cell?_setCell_far _ _ _ _ hp2, World.cell?_setCell_far _ _ _ _ hp2, World.cell?_setCell_far _ _ _ _ hp2, World.cell?_setCell_far _ _ _ _ hp2, World.cell?_setCell_far _ _ _ _ hp2, World.cell?_setCell_far _ _ _ _ hp2, World.cell?_setCell_far _ _ _ _ hp2]⟩
theorem put6_ {w W : World} {g : Nat} {t : TypeId} {o0 o1 o2 o3 o4 o5 o6 v : Value} (hb : Below w.heap.size w W) (hg : w.heap.size ≤ g) (hx : W.heap[g]? = some (.cells #[o0, o1, o2, o3, o4, o5, o6] t (0, 0))) :
    ∃ V, V = W.setCell ⟨g, 6, none⟩ v ∧ V.heap[g]? = some (.cells #[o0, o1, o2, o3, o4, o5, v] t (0, 0)) ∧ Below w.heap.size w V ∧ ∀ g' t' cs, g' ≠ g → W.heap[g']? = some (.cells cs t' (0, 0)) → V.heap[g']? = some (.cells cs t' (0, 0)) :=
  ⟨_, rfl, blk_put (cs := #[o0, o1, o2, o3, o4, o5, o6]) hx 6 _ rfl, hb.setCell hg _, fun g' t' cs hn h => blk_far h hn _⟩
set_option maxHeartbeats 8000000 in
set_option maxRecDepth 100000 in
theorem spec_ParseDate.calls (k : Nat) (a0 : ByteArray) (r1 : Int) (r2 : Int) (r3 : Int) (r4 : Int) (r5 : Int) (r6 : Int) (r7 : Int) (r8 : Bool) (w : World) (h : spec_ParseDate.f k a0 = some (r1, r2, r3, r4, r5, r6, r7, r8)) :
  Calls Tryd.prog 15 #[.string a0] w fun e w' => e = .returned (.tuple #[.agg #[.int .i64 r1, .int .i64 r2, .int .i64 r3, .int .i64 r4, .int .i64 r5, .int .i64 r6, .int .i64 r7], .bool r8]) ∧ Below w.heap.size w w' := by
 have hu24 := Tryd.underlying24
 have HB := Aside0.mk (Below.refl w.heap.size w)
 have H : ((spec_TextValid.f k a0).bind fun t181 => (if t181 = true then ((spec_l2Cut.f k a0 44).bind fun bt182 => (if bt182.2.2 = true then ((spec_l2Trim.f k bt182.1).bind fun t185 => (spec_ParseDate.j0 k bt182.2.1 t185 bt182.2.2)) else (spec_ParseDate.j0 k a0 (⟨#[]⟩ : ByteArray) bt182.2.2))) else (some (0, 0, 0, 0, 0, 0, 0, false)))) = some (r1, r2, r3, r4, r5, r6, r7, r8) := h
 clear h
 replace H := Option.bind_eq_some_iff.mp H
 obtain ⟨t181, A20, H⟩ := H
 replace H : (if t181 = true then ((spec_l2Cut.f k a0 44).bind fun bt182 => (if bt182.2.2 = true then ((spec_l2Trim.f k bt182.1).bind fun t185 => (spec_ParseDate.j0 k bt182.2.1 t185 bt182.2.2)) else (spec_ParseDate.j0 k a0 (⟨#[]⟩ : ByteArray) bt182.2.2))) else (some (0, 0, 0, 0, 0, 0, 0, false))) = some (r1, r2, r3, r4, r5, r6, r7, r8) := H
 have A2 := Aside0.mk A20
 clear A20
 by_cases c3 : t181 = true
 ·subst c3
  have H1 : ((spec_l2Cut.f k a0 44).bind fun bt182 => (if bt182.2.2 = true then ((spec_l2Trim.f k bt182.1).bind fun t185 => (spec_ParseDate.j0 k bt182.2.1 t185 bt182.2.2)) else (spec_ParseDate.j0 k a0 (⟨#[]⟩ : ByteArray) bt182.2.2))) = some (r1, r2, r3, r4, r5, r6, r7, r8) := by rw [if_pos rfl] at H; exact H
  clear H
  have H := H1
  clear H1
  replace H := Option.bind_eq_some_iff.mp H
  obtain ⟨⟨t182, t183, t184⟩, A40, H⟩ := H
  replace H : (if t184 = true then ((spec_l2Trim.f k t182).bind fun t185 => (spec_ParseDate.j0 k t183 t185 t184)) else (spec_ParseDate.j0 k a0 (⟨#[]⟩ : ByteArray) t184)) = some (r1, r2, r3, r4, r5, r6, r7, r8) := H
  have A4 := Aside0.mk A40
  clear A40
  have HC5 := Aside0.mk H
  clear H
  go_enter Tryd.func15, Tryd.ntmps15
  go_upto_if 30 with (first | ((with_reducible refine gate_dst (N := 2) rfl ?_); refine box_event ?hg (N := 2) ?hd (cs := #[.int .i64 0, .int .i64 0, .int .i64 0, .int .i64 0, .int .i64 0, .int .i64 0, .int .i64 0]) (t := 24) ?hr ?_; (case hd => rfl); (case hg => rfl); (case hr => first | (go_simp; done) | (go_simp; rfl)); intro gb180 hg w6 hbox hb; have n0_ := Aside0.mk (below_step (by repeat (first | (with_reducible first | exact HB.out | apply Be | apply Bc | apply Bd) | exact HB.out)) hb); have n1_ := Aside0.mk (hbox); have n2_ := Aside0.mk ((by rw [hg]; exact (below_size (by repeat (first | (with_reducible first | exact HB.out | apply Be | apply Bc | apply Bd) | exact HB.out))) : w.heap.size ≤ gb180)); have n3_ := Aside0.mk ((by rw [hg]; exact (below_size (by repeat (first | (with_reducible first | exact HB.out | apply Be | apply Bc | apply Bd) | exact HB.out))) : w.heap.size ≤ gb180)); clear HB; have HB := n0_; have BK180 := n1_; have GW180 := n2_; have GE180 := n3_; clear n0_ n1_ n2_ n3_; clear hb hbox hg) | ((with_reducible refine gate_callee (f := 40) rfl ?_); refine goesL_ (some 21) rfl rfl Tryd.func40 (by kernel_rfl) rfl #[.string a0] rfl (by (try simp only [List.map_toArray, List.map_cons, List.map_nil]); first | done | rfl | (simp only [List.length_drop, List.length_take]; rfl)) ?_; (with_reducible refine (spec_TextValid.calls k a0 true _ A2.out).mono ?_); rintro e w' ⟨rfl, ⟨nd, rfl⟩⟩; refine ⟨_, rfl, ?_⟩) | ((with_reducible refine gate_callee (f := 41) rfl ?_); refine goesL_ (some 26) rfl rfl Tryd.func41 (by kernel_rfl) rfl #[.string a0, .int .u8 44] rfl (by (try simp only [List.map_toArray, List.map_cons, List.map_nil]); first | done | rfl | (simp only [List.length_drop, List.length_take]; rfl)) ?_; (with_reducible refine (spec_l2Cut.calls k a0 44 t182 t183 t184 _ A4.out).mono ?_); rintro e w' ⟨rfl, ⟨nd, rfl⟩⟩; refine ⟨_, rfl, ?_⟩))
  (try simp only [Act.put, sA, sZ, sS])
  go_cut [0, 4] (fun v0 v4 wc => ∃ (kq : Nat) (x0_4 : ByteArray) (x4_4 : ByteArray), v0 = .string x0_4 ∧ v4 = .string x4_4 ∧ Aside0 (spec_ParseDate.j0 kq x0_4 x4_4 t184 = some (r1, r2, r3, r4, r5, r6, r7, r8)) ∧ Aside0 (kq ≤ k) ∧ Aside0 (wc.heap[gb180]? = some (.cells #[.int .i64 0, .int .i64 0, .int .i64 0, .int .i64 0, .int .i64 0, .int .i64 0, .int .i64 0] 24 (0, 0))) ∧ Aside0 (Below w.heap.size w wc))
  case first =>
   have H := HC5.out; clear HC5
   by_cases c7 : t184 = true
   ·subst c7
    have H1 : ((spec_l2Trim.f k t182).bind fun t185 => (spec_ParseDate.j0 k t183 t185 true)) = some (r1, r2, r3, r4, r5, r6, r7, r8) := by rw [if_pos rfl] at H; exact H
    clear H; have H := H1; clear H1; replace H := Option.bind_eq_some_iff.mp H
    obtain ⟨t185, A80, H⟩ := H
    replace H : (spec_ParseDate.j0 k t183 t185 true) = some (r1, r2, r3, r4, r5, r6, r7, r8) := H
    have A8 := Aside0.mk A80; clear A80
    have H' := Aside0.mk H
    clear H
    go_wp2_with (first | ((with_reducible refine gate_callee (f := 42) rfl ?_); refine goesL_ (some 32) rfl rfl Tryd.func42 (by kernel_rfl) rfl #[.string t182] rfl (by (try simp only [List.map_toArray, List.map_cons, List.map_nil]); first | done | rfl | (simp only [List.length_drop, List.length_take]; rfl)) ?_; (with_reducible refine (spec_l2Trim.calls k t182 t185 _ A8.out).mono ?_); rintro e w' ⟨rfl, ⟨nd, rfl⟩⟩; refine ⟨_, rfl, ?_⟩))
    go_meet
    case rel => exact ⟨_, (t183), (t185), (by first | rfl | (simp; done) | (simp [*]; done)), (by first | rfl | (simp; done) | (simp [*]; done)), H', ⟨by first | omega | exact Nat.le_refl _⟩, ⟨by (with_reducible repeat (first | refine Bf ?_ _ | refine Bh ?_ | refine Bg ?_ _)); exact BK180.out⟩, ⟨by repeat (first | (with_reducible first | exact HB.out | apply Be | apply Bc | apply Bd | refine below_set ?_ GE180.out) | exact HB.out)⟩⟩
   replace c7 := Bool.eq_false_iff.mpr c7
   subst c7
   have H1 : (spec_ParseDate.j0 k a0 (⟨#[]⟩ : ByteArray) false) = some (r1, r2, r3, r4, r5, r6, r7, r8) := by rw [if_neg (show ¬ (false = true) by decide)] at H; exact H
   clear H; have H := H1; clear H1
   have H' := Aside0.mk H
   clear H
   go_wp2
   go_meet
   case rel => exact ⟨_, (a0), ((⟨#[]⟩ : ByteArray)), (by first | rfl | (simp; done) | (simp [*]; done)), (by first | rfl | (simp; done) | (simp [*]; done)), H', ⟨by first | omega | exact Nat.le_refl _⟩, ⟨by (with_reducible repeat (first | refine Bf ?_ _ | refine Bh ?_ | refine Bg ?_ _)); exact BK180.out⟩, ⟨by repeat (first | (with_reducible first | exact HB.out | apply Be | apply Bc | apply Bd | refine below_set ?_ GE180.out) | exact HB.out)⟩⟩
  case rest =>
   clear HC5
   try clear c1
   try clear p2
   try clear c3
   try clear c4
   try clear c7
   obtain ⟨kq, x0_4, x4_4, rfl, rfl, HA, HJ4, BK180, HB⟩ := hcut
   cases kq with
   | zero => exact absurd HA.out (by simp [spec_ParseDate.j0])
   | succ kj4 =>
    have H := HA.out; clear HA
    simp only [spec_ParseDate.j0] at H
    obtain ⟨y186, hy186⟩ : ∃ y_ : List ByteArray, y_ = (([] : List ByteArray)) := ⟨_, rfl⟩
    replace H : ((spec_l2Parts.f kj4 x0_4 32).bind fun t189 => (spec_ParseDate.l0 kj4 x4_4 t184 y186 t189 0)) = some (r1, r2, r3, r4, r5, r6, r7, r8) := by first | (rw [hy186]; with_reducible exact H) | (have H2_ := (Option.bind_some _ _).symm.trans H; rw [hy186]; with_reducible exact H2_) | (have H2_ := (Option.bind_some _ _).symm.trans H; with_reducible exact H2_) | with_reducible exact H | (rw [hy186]; exact H) | exact H
    have Ny186 := Aside0.mk hy186; clear hy186; replace H := Option.bind_eq_some_iff.mp H
    obtain ⟨t189, A90, H⟩ := H
    replace H : (spec_ParseDate.l0 kj4 x4_4 t184 y186 t189 0) = some (r1, r2, r3, r4, r5, r6, r7, r8) := H
    have A9 := Aside0.mk A90; clear A90
    have H' := Aside0.mk H
    clear H
    go_wp2_with (first | ((with_reducible refine gate_dst (N := 34) rfl ?_); refine Kd.R_lit Kd.string _ 9 ?hg (N := 34) ?hd (xs := ([] : List ByteArray)) (inner := []) (ok := fun _ => True) (okp := fun _ => True) ?hr ?hp (fun _ hk => hk) trivial (Below.refl _ _) (Nat.le_refl _) (by simp) ?_; (case hd => rfl); (case hg => rfl); (case hr => first | (go_simp; done) | (go_simp; rfl)); (case hp => exact (Reps.none _ _)); intro v187 w10 ho11 hb hg_ hnew_; clear hg_ hnew_; (first | rw [← Ny186.out] at ho11 | (simp only [Int.reduceToNat] at ho11; rw [← Ny186.out] at ho11)); have n0_ := Aside0.mk (Kd.R_lower ho11 (below_size (by repeat (first | (with_reducible first | exact HB.out | apply Be | apply Bc | apply Bd | refine below_set ?_ GE180.out) | exact HB.out)))); have n1_ := Aside0.mk (blk_below (g := gb180) (o := .cells #[.int .i64 0, .int .i64 0, .int .i64 0, .int .i64 0, .int .i64 0, .int .i64 0, .int .i64 0] 24 (0, 0)) (by (with_reducible repeat (first | refine Bf ?_ _ | refine Bh ?_ | refine Bg ?_ _)); exact BK180.out) hb); have n2_ := Aside0.mk (below_step (by repeat (first | (with_reducible first | exact HB.out | apply Be | apply Bc | apply Bd | refine below_set ?_ GE180.out) | exact HB.out)) hb); clear BK180; clear HB; have HO188 := n0_; have BK180 := n1_; have HB := n2_; clear n0_ n1_ n2_; clear hb ho11) | ((with_reducible refine gate_callee (f := 43) rfl ?_); refine goesL_ (some 36) rfl rfl Tryd.func43 (by kernel_rfl) rfl #[.string x0_4, .int .u8 32] rfl (by (try simp only [List.map_toArray, List.map_cons, List.map_nil]); first | done | rfl | (simp only [List.length_drop, List.length_take]; rfl)) ?_; (with_reducible refine (spec_l2Parts.calls kj4 x0_4 32 t189 _ A9.out).mono ?_); rintro e w12 ⟨v190, rfl, ho0, hb⟩; refine ⟨_, rfl, ?_⟩; have n0_ := Aside0.mk (Kd.R_elder' (by (with_reducible repeat (first | apply Kd.R_alloc | apply Kd.R_drewN | apply Kd.R_drew)); exact HO188.out) (Kd.R_base ho0) hb); have n1_ := Aside0.mk (Kd.R_lower (Kd.R_new' ho0 (Kd.R_lt (by (with_reducible repeat (first | apply Kd.R_alloc | apply Kd.R_drewN | apply Kd.R_drew)); exact HO188.out))) (below_size (by repeat (first | (with_reducible first | exact HB.out | apply Be | apply Bc | apply Bd | refine below_set ?_ GE180.out) | exact HB.out)))); have n2_ := Aside0.mk (blk_below (g := gb180) (o := .cells #[.int .i64 0, .int .i64 0, .int .i64 0, .int .i64 0, .int .i64 0, .int .i64 0, .int .i64 0] 24 (0, 0)) (by (with_reducible repeat (first | refine Bf ?_ _ | refine Bh ?_ | refine Bg ?_ _)); exact BK180.out) hb); have n3_ := Aside0.mk (below_step (by repeat (first | (with_reducible first | exact HB.out | apply Be | apply Bc | apply Bd | refine below_set ?_ GE180.out) | exact HB.out)) hb); clear HO188; clear BK180; clear HB; have HO188 := n0_; have HO191 := n1_; have BK180 := n2_; have HB := n3_; clear n0_ n1_ n2_ n3_; (try clear hb); (try clear hb2); (try clear hk); (try clear hi); (try clear ho0)))
    go_loopg [8, 10] kj4 (fun kq v8 v10 w' => ∃ (x8_2 : List ByteArray) (x10_2 : Int), v10 = .int .i64 x10_2 ∧ Aside0 (spec_ParseDate.l0 kq x4_4 t184 x8_2 t189 x10_2 = some (r1, r2, r3, r4, r5, r6, r7, r8)) ∧ Aside0 (kq ≤ kj4) ∧ Aside0 (Kd.R Kd.string 9 w' w.heap.size (fun k_ => some k_ ≠ (v190 : Value).ownBlock) v8 x8_2) ∧ Aside0 (Kd.R Kd.string 9 w' w.heap.size (fun k_ => some k_ ≠ (v8 : Value).ownBlock) v190 t189) ∧ Aside0 (w'.heap[gb180]? = some (.cells #[.int .i64 0, .int .i64 0, .int .i64 0, .int .i64 0, .int .i64 0, .int .i64 0, .int .i64 0] 24 (0, 0))) ∧ Aside0 (Below w.heap.size w w'))
    case atStart => exact ⟨(y186), (0), (by first | rfl | (simp; done) | (simp [*]; done)), H', ⟨Nat.le_refl _⟩, ⟨by (with_reducible repeat (first | apply Kd.R_alloc | apply Kd.R_drewN | apply Kd.R_drew)); exact Kd.R_mono HO188.out (fun _ hk => hk.2)⟩, ⟨by (with_reducible repeat (first | apply Kd.R_alloc | apply Kd.R_drewN | apply Kd.R_drew)); exact Kd.R_mono HO191.out (fun _ hk => hk.2)⟩, ⟨by (with_reducible repeat (first | refine Bf ?_ _ | refine Bh ?_ | refine Bg ?_ _)); exact BK180.out⟩, ⟨by repeat (first | (with_reducible first | exact HB.out | apply Be | apply Bc | apply Bd | refine below_set ?_ GE180.out) | exact HB.out)⟩⟩
    case round =>
     clear H'
     try clear c1
     try clear p2
     try clear c3
     try clear c4
     try clear c7
     try clear p2
     obtain ⟨x8_2, x10_2, rfl, HA, HK2, HO_8, HO_9, BK180, HB⟩ := hrel
     cases gk with
     | zero => exact absurd HA.out (by simp [spec_ParseDate.l0])
     | succ k2 =>
      have H := HA.out; clear HA
      simp only [spec_ParseDate.l0] at H
      by_cases c13 : x10_2 < (t189.length : Int)
      ·rw [if_pos c13] at H
       have c13b0 : decide (x10_2 < (t189.length : Int)) = true := decide_eq_true c13
       clear c13
       by_cases c14 : 0 ≤ x10_2
       ·rw [if_pos c14] at H
        have c14b0 : decide (0 ≤ x10_2) = true := decide_eq_true c14
        clear c14
        by_cases c15 : (rdOf ByteArray.empty t189 x10_2).toList = ([] : List UInt8)
        ·rw [if_pos c15] at H
         have c15b0 : ((rdOf ByteArray.empty t189 x10_2).toList == ([] : List UInt8)) = true := beq_iff_eq.mpr c15
         have c15b1 : ((rdOf ByteArray.empty t189 x10_2).toList != ([] : List UInt8)) = false := bne_eq_false_iff_eq.mpr c15
         clear c15
         have H' := Aside0.mk H
         clear H
         obtain ⟨Ao16, co16, eo16⟩ := Kd.R_slice HO_9.out
         subst eo16
         have p192 : 0 ≤ (x10_2 : Int) := of_decide_eq_true (by first | (with_reducible assumption) | assumption)
         have q192 : x10_2 < (t189.length : Int) := of_decide_eq_true (by first | (with_reducible assumption) | assumption)
         (try (obtain ⟨Ay_, cy_, ey_⟩ := Kd.R_slice HO_9.out; subst ey_))
         obtain ⟨ad192, e192, hx192_0⟩ := Kd.at_string (Kd.R_reads' HO_9.out).2.2 x10_2 p192 q192
         cases e192
         replace p192 := eq_true p192; replace q192 := eq_true q192
         go_wp2
         go_roundg k2
         case measure => have := HJ4.out; have := HK2.out; omega
         case rel => exact ⟨(x8_2), (wrap64 (x10_2 + 1)), (by first | rfl | (simp; done) | (simp [*]; done)), H', ⟨by have := HJ4.out; have := HK2.out; omega⟩, ⟨by (with_reducible repeat (first | apply Kd.R_alloc | apply Kd.R_drewN | apply Kd.R_drew)); exact HO_8.out⟩, ⟨by (with_reducible repeat (first | apply Kd.R_alloc | apply Kd.R_drewN | apply Kd.R_drew)); exact HO_9.out⟩, ⟨by (with_reducible repeat (first | refine Bf ?_ _ | refine Bh ?_ | refine Bg ?_ _)); exact BK180.out⟩, ⟨by repeat (first | (with_reducible first | exact HB.out | apply Be | apply Bc | apply Bd | refine below_set ?_ GE180.out) | exact HB.out)⟩⟩
        rw [if_neg c15] at H
        have c15b0 : ((rdOf ByteArray.empty t189 x10_2).toList == ([] : List UInt8)) = false := beq_eq_false_iff_ne.mpr c15
        have c15b1 : ((rdOf ByteArray.empty t189 x10_2).toList != ([] : List UInt8)) = true := bne_iff_ne.mpr c15
        by_cases c17 : x8_2.length < 8796093022208
        ·rw [if_pos c17] at H
         have LMc17 := Aside0.mk c17; clear c17
         obtain ⟨y194, hy194⟩ : ∃ y_ : List ByteArray, y_ = (x8_2 ++ [rdOf ByteArray.empty t189 x10_2]) := ⟨_, rfl⟩
         replace H : (spec_ParseDate.l0 k2 x4_4 t184 y194 t189 (wrap64 (x10_2 + 1))) = some (r1, r2, r3, r4, r5, r6, r7, r8) := by first | (rw [hy194]; with_reducible exact H) | (have H2_ := (Option.bind_some _ _).symm.trans H; rw [hy194]; with_reducible exact H2_) | (have H2_ := (Option.bind_some _ _).symm.trans H; with_reducible exact H2_) | with_reducible exact H | (rw [hy194]; exact H) | exact H
         have Ny194 := Aside0.mk hy194; clear hy194
         have H' := Aside0.mk H
         clear H
         obtain ⟨Ao18, co18, eo18⟩ := Kd.R_slice HO_9.out
         subst eo18
         have p192 : 0 ≤ (x10_2 : Int) := of_decide_eq_true (by first | (with_reducible assumption) | assumption)
         have q192 : x10_2 < (t189.length : Int) := of_decide_eq_true (by first | (with_reducible assumption) | assumption)
         (try (obtain ⟨Ay_, cy_, ey_⟩ := Kd.R_slice HO_9.out; subst ey_))
         obtain ⟨ad192, e192, hx192_0⟩ := Kd.at_string (Kd.R_reads' HO_9.out).2.2 x10_2 p192 q192
         cases e192
         replace p192 := eq_true p192; replace q192 := eq_true q192
         have p193 : 0 ≤ (x10_2 : Int) := of_decide_eq_true (by first | (with_reducible assumption) | assumption)
         have q193 : x10_2 < (t189.length : Int) := of_decide_eq_true (by first | (with_reducible assumption) | assumption)
         (try (obtain ⟨Ay_, cy_, ey_⟩ := Kd.R_slice HO_9.out; subst ey_))
         obtain ⟨ad193, e193, hx193_0⟩ := Kd.at_string (Kd.R_reads' HO_9.out).2.2 x10_2 p193 q193
         obtain rfl : ad192 = ad193 := (by injection e193)
         replace p193 := eq_true p193; replace q193 := eq_true q193
         go_wp2_with (first | ((with_reducible refine gate_builtin (b := .append) (xs := #[.tmp 48, .tmp 53]) rfl ?_); at_builtin; refine Kd.R_append Kd.string (w0 := w) w.heap.size rfl (.tmp 48) (.tmp 53) 42 9 (.string ⟨#[]⟩) 16 rfl Tryd.underlying42 info9 rfl (by decide) (by omega) u8 x8_2 (rdOf ByteArray.empty t189 x10_2) [.string (rdOf ByteArray.empty t189 x10_2)] (fun k_ => some k_ ≠ (.slice (some ad192) t189.length co18 : Value).ownBlock) (fun _ => False) rfl rfl ?aP (fun _ hk => hk.elim) ?aF ?aO ?aB ?aS ?aL ?_; (case aP => exact rfl); (case aB => exact (by repeat (first | (with_reducible first | exact HB.out | apply Be | apply Bc | apply Bd | refine below_set ?_ GE180.out) | exact HB.out))); (case aF => exact (fun k_ hk => Kd.fresh' (Kd.R_lt (by (with_reducible repeat (first | apply Kd.R_alloc | apply Kd.R_drewN | apply Kd.R_drew)); exact HO_9.out)) k_ hk)); (case aO => exact (by (with_reducible repeat (first | apply Kd.R_alloc | apply Kd.R_drewN | apply Kd.R_drew)); exact HO_8.out)); (case aS => exact (below_size (by repeat (first | (with_reducible first | exact HB.out | apply Be | apply Bc | apply Bd | refine below_set ?_ GE180.out) | exact HB.out)))); (case aL => have := LMc17.out; omega); intro v195 w19 ho hb hg hat; rw [← Ny194.out] at ho; have n0_ := Aside0.mk (Kd.R_after (ok := (fun _ => True)) (by (with_reducible repeat (first | apply Kd.R_alloc | apply Kd.R_drewN | apply Kd.R_drew)); exact Kd.R_mono HO_9.out (fun _ hk => ⟨trivial, hk⟩)) hg hat); have n1_ := Aside0.mk (blk_grown (g := gb180) (o := .cells #[.int .i64 0, .int .i64 0, .int .i64 0, .int .i64 0, .int .i64 0, .int .i64 0, .int .i64 0] 24 (0, 0)) (by (with_reducible repeat (first | refine Bf ?_ _ | refine Bh ?_ | refine Bg ?_ _)); exact BK180.out) hg (Kd.R_ne HO_8.out BK180.out (by decide))); have n2_ := Aside0.mk (hb); have n3_ := Aside0.mk (ho); clear HO_9; clear BK180; clear HB; clear HO_8; have HO_9 := n0_; have BK180 := n1_; have HB := n2_; have HO196 := n3_; clear n0_ n1_ n2_ n3_; clear ho hb hg hat))
         go_roundg k2
         case measure => have := HJ4.out; have := HK2.out; omega
         case rel => exact ⟨(y194), (wrap64 (x10_2 + 1)), (by first | rfl | (simp; done) | (simp [*]; done)), H', ⟨by have := HJ4.out; have := HK2.out; omega⟩, ⟨by (with_reducible repeat (first | apply Kd.R_alloc | apply Kd.R_drewN | apply Kd.R_drew)); exact HO196.out⟩, ⟨by (with_reducible repeat (first | apply Kd.R_alloc | apply Kd.R_drewN | apply Kd.R_drew)); exact Kd.R_mono HO_9.out (fun _ hk => hk.2)⟩, ⟨by (with_reducible repeat (first | refine Bf ?_ _ | refine Bh ?_ | refine Bg ?_ _)); exact BK180.out⟩, ⟨by repeat (first | (with_reducible first | exact HB.out | apply Be | apply Bc | apply Bd | refine below_set ?_ GE180.out) | exact HB.out)⟩⟩
        rw [if_neg c17] at H
        exact absurd H (by simp)
       rw [if_neg c14] at H
       exact absurd H (by simp)
      rw [if_neg c13] at H
      have c13b0 : decide (x10_2 < (t189.length : Int)) = false := decide_eq_false c13
      clear c13
      by_cases c20 : (x8_2.length : Int) = 5
      ·rw [if_pos c20] at H
       have c20b0 : ((x8_2.length : Int) == 5) = true := beq_iff_eq.mpr c20
       have c20b1 : ((x8_2.length : Int) != 5) = false := bne_eq_false_iff_eq.mpr c20
       clear c20
       by_cases c21 : 0 < (x8_2.length : Int)
       ·rw [if_pos c21] at H
        have c21b0 : decide (0 < (x8_2.length : Int)) = true := decide_eq_true c21
        have c21b1 : decide (0 < x8_2.length) = true := decide_eq_true (by omega)
        clear c21; replace H := Option.bind_eq_some_iff.mp H
        obtain ⟨⟨t199, t200⟩, A220, H⟩ := H
        replace H : (spec_ParseDate.l1 k2 x4_4 t184 x8_2 t200 0 0 0 t199 0 0 0 0) = some (r1, r2, r3, r4, r5, r6, r7, r8) := H
        have A22 := Aside0.mk A220; clear A220
        have H' := Aside0.mk H
        clear H
        obtain ⟨Ao23, co23, eo23⟩ := Kd.R_slice HO_9.out
        subst eo23
        obtain ⟨Ao24, co24, eo24⟩ := Kd.R_slice HO_8.out
        subst eo24
        go_wp2_with (first | ((with_reducible refine gate_dst (N := 11) rfl ?_); refine box_event ?hg (N := 11) ?hd (cs := #[.int .i64 0, .int .i64 0, .int .i64 0, .int .i64 0, .int .i64 0, .int .i64 0, .int .i64 0]) (t := 24) ?hr ?_; (case hd => rfl); (case hg => rfl); (case hr => first | (go_simp; done) | (go_simp; rfl)); intro gb197 hg w25 hbox hb; have n0_ := Aside0.mk (Kd.R_below (by (with_reducible repeat (first | apply Kd.R_alloc | apply Kd.R_drewN | apply Kd.R_drew)); exact HO_8.out) hb); have n1_ := Aside0.mk (Kd.R_below (by (with_reducible repeat (first | apply Kd.R_alloc | apply Kd.R_drewN | apply Kd.R_drew)); exact HO_9.out) hb); have n2_ := Aside0.mk (blk_below (g := gb180) (o := .cells #[.int .i64 0, .int .i64 0, .int .i64 0, .int .i64 0, .int .i64 0, .int .i64 0, .int .i64 0] 24 (0, 0)) (by (with_reducible repeat (first | refine Bf ?_ _ | refine Bh ?_ | refine Bg ?_ _)); exact BK180.out) hb); have n3_ := Aside0.mk (below_step (by repeat (first | (with_reducible first | exact HB.out | apply Be | apply Bc | apply Bd | refine below_set ?_ GE180.out) | exact HB.out)) hb); have n4_ := Aside0.mk (hbox); have n5_ := Aside0.mk ((by rw [hg]; exact (below_size (by repeat (first | (with_reducible first | exact HB.out | apply Be | apply Bc | apply Bd | refine below_set ?_ GE180.out) | exact HB.out))) : w.heap.size ≤ gb197)); have n6_ := Aside0.mk ((by rw [hg]; exact (below_size (by repeat (first | (with_reducible first | exact HB.out | apply Be | apply Bc | apply Bd | refine below_set ?_ GE180.out) | exact HB.out))) : w.heap.size ≤ gb197)); have n7_ := Aside0.mk ((by rw [hg]; exact Nat.ne_of_lt (blk_lt (g := gb180) (o := .cells #[.int .i64 0, .int .i64 0, .int .i64 0, .int .i64 0, .int .i64 0, .int .i64 0, .int .i64 0] 24 (0, 0)) (by (with_reducible repeat (first | refine Bf ?_ _ | refine Bh ?_ | refine Bg ?_ _)); exact BK180.out)) : gb180 ≠ gb197)); have n8_ := Aside0.mk ((by rw [hg]; exact Nat.ne_of_gt (blk_lt (g := gb180) (o := .cells #[.int .i64 0, .int .i64 0, .int .i64 0, .int .i64 0, .int .i64 0, .int .i64 0, .int .i64 0] 24 (0, 0)) (by (with_reducible repeat (first | refine Bf ?_ _ | refine Bh ?_ | refine Bg ?_ _)); exact BK180.out)) : gb197 ≠ gb180)); clear HO_8; clear HO_9; clear BK180; clear HB; have HO_8 := n0_; have HO_9 := n1_; have BK180 := n2_; have HB := n3_; have BK197 := n4_; have GW197 := n5_; have GE197 := n6_; have NB180_197 := n7_; have NB197_180 := n8_; clear n0_ n1_ n2_ n3_ n4_ n5_ n6_ n7_ n8_; clear hb hbox hg; have hnb26 := NB197_180.out; have hnc26 := NB180_197.out; have hcz27_0 : w25.cell? ⟨gb197, 0, none⟩ = some (.int .i64 0) := (Ba BK197.out 0).trans rfl; have hcz27_1 : w25.cell? ⟨gb197, 1, none⟩ = some (.int .i64 0) := (Ba BK197.out 1).trans rfl; have hcz27_2 : w25.cell? ⟨gb197, 2, none⟩ = some (.int .i64 0) := (Ba BK197.out 2).trans rfl; have hcz27_3 : w25.cell? ⟨gb197, 3, none⟩ = some (.int .i64 0) := (Ba BK197.out 3).trans rfl; have hcz27_4 : w25.cell? ⟨gb197, 4, none⟩ = some (.int .i64 0) := (Ba BK197.out 4).trans rfl; have hcz27_5 : w25.cell? ⟨gb197, 5, none⟩ = some (.int .i64 0) := (Ba BK197.out 5).trans rfl; have hcz27_6 : w25.cell? ⟨gb197, 6, none⟩ = some (.int .i64 0) := (Ba BK197.out 6).trans rfl; have hfz27_0 := Bb BK197.out 0; have hfz27_1 := Bb BK197.out 1; have hfz27_2 := Bb BK197.out 2; have hfz27_3 := Bb BK197.out 3; have hfz27_4 := Bb BK197.out 4; have hfz27_5 := Bb BK197.out 5; have hfz27_6 := Bb BK197.out 6; have p198 : 0 ≤ (0 : Int) := (by omega); have q198 : 0 < (x8_2.length : Int) := of_decide_eq_true (by first | (with_reducible assumption) | assumption); obtain ⟨ad198, e198, hx198_0⟩ := Kd.at_string (Kd.R_reads' HO_8.out).2.2 0 p198 q198; cases e198; have qi198 : (0 < x8_2.length) = True := eq_true (by omega); (try rw [show ((0 : Int)).toNat = 0 from rfl] at hx198_0); (try rw [Addr.add_zero'] at hx198_0); have hn198_0 : ad198.block ≠ gb197 := Kd.own_blk (Kd.R_ne HO_8.out BK197.out (by decide)); have hn198_1 : ad198.block ≠ gb197 := Kd.own_blk (Kd.R_ne HO_8.out BK197.out (by decide)); have hn198_2 : ad198.block ≠ gb197 := Kd.own_blk (Kd.R_ne HO_8.out BK197.out (by decide)); have hn198_3 : ad198.block ≠ gb197 := Kd.own_blk (Kd.R_ne HO_8.out BK197.out (by decide)); have hn198_4 : ad198.block ≠ gb197 := Kd.own_blk (Kd.R_ne HO_8.out BK197.out (by decide)); have hn198_5 : ad198.block ≠ gb197 := Kd.own_blk (Kd.R_ne HO_8.out BK197.out (by decide)); have hn198_6 : ad198.block ≠ gb197 := Kd.own_blk (Kd.R_ne HO_8.out BK197.out (by decide)); replace hx198_0 := (cell_far (p := ⟨gb197, 0, none⟩) (by first | (rw [add_block]; exact hn198_0) | (show (Addr.add _ _).block ≠ _; rw [add_block]; exact hn198_0) | exact hn198_0) (.int .i64 0)).trans hx198_0; replace hx198_0 := (cell_far (p := ⟨gb197, 1, none⟩) (by first | (rw [add_block]; exact hn198_1) | (show (Addr.add _ _).block ≠ _; rw [add_block]; exact hn198_1) | exact hn198_1) (.int .i64 0)).trans hx198_0; replace hx198_0 := (cell_far (p := ⟨gb197, 2, none⟩) (by first | (rw [add_block]; exact hn198_2) | (show (Addr.add _ _).block ≠ _; rw [add_block]; exact hn198_2) | exact hn198_2) (.int .i64 0)).trans hx198_0; replace hx198_0 := (cell_far (p := ⟨gb197, 3, none⟩) (by first | (rw [add_block]; exact hn198_3) | (show (Addr.add _ _).block ≠ _; rw [add_block]; exact hn198_3) | exact hn198_3) (.int .i64 0)).trans hx198_0; replace hx198_0 := (cell_far (p := ⟨gb197, 4, none⟩) (by first | (rw [add_block]; exact hn198_4) | (show (Addr.add _ _).block ≠ _; rw [add_block]; exact hn198_4) | exact hn198_4) (.int .i64 0)).trans hx198_0; replace hx198_0 := (cell_far (p := ⟨gb197, 5, none⟩) (by first | (rw [add_block]; exact hn198_5) | (show (Addr.add _ _).block ≠ _; rw [add_block]; exact hn198_5) | exact hn198_5) (.int .i64 0)).trans hx198_0; replace hx198_0 := (cell_far (p := ⟨gb197, 6, none⟩) (by first | (rw [add_block]; exact hn198_6) | (show (Addr.add _ _).block ≠ _; rw [add_block]; exact hn198_6) | exact hn198_6) (.int .i64 0)).trans hx198_0; clear hn198_0; clear hn198_1; clear hn198_2; clear hn198_3; clear hn198_4; clear hn198_5; clear hn198_6; replace p198 := eq_true p198; replace q198 := eq_true q198) | ((with_reducible refine gate_callee (f := 44) rfl ?_); refine goesL_ (some 64) rfl rfl Tryd.func44 (by kernel_rfl) rfl #[.string (rdOf ByteArray.empty x8_2 0), .int .i64 1, .int .i64 2] rfl (by (try simp only [List.map_toArray, List.map_cons, List.map_nil]); first | done | rfl | (simp only [List.length_drop, List.length_take]; rfl)) ?_; (with_reducible refine (spec_l4Digits.calls k2 (rdOf ByteArray.empty x8_2 0) 1 2 t199 t200 _ A22.out).mono ?_); rintro e w' ⟨rfl, ⟨nd, rfl⟩⟩; refine ⟨_, rfl, ?_⟩))
        go_loopg [14] k2 (fun kq v14 w' => ∃ (x14_3 : Int) (x198001_3 : Int), v14 = .int .i64 x14_3 ∧ Aside0 (spec_ParseDate.l1 kq x4_4 t184 x8_2 t200 x14_3 0 x198001_3 t199 0 0 0 0 = some (r1, r2, r3, r4, r5, r6, r7, r8)) ∧ Aside0 (kq ≤ k2) ∧ Aside0 (Kd.R Kd.string 9 w' w.heap.size (fun _ => True) (.slice (some ad198) x8_2.length co24) x8_2) ∧ Aside0 (w'.heap[gb180]? = some (.cells #[.int .i64 0, .int .i64 0, .int .i64 0, .int .i64 0, .int .i64 0, .int .i64 0, .int .i64 0] 24 (0, 0))) ∧ Aside0 (w'.heap[gb197]? = some (.cells #[.int .i64 0, .int .i64 x198001_3, .int .i64 t199, .int .i64 0, .int .i64 0, .int .i64 0, .int .i64 0] 24 (0, 0))) ∧ Aside0 (Below w.heap.size w w'))
        case atStart => exact ⟨(0), (0), (by first | rfl | (simp; done) | (simp [*]; done)), H', ⟨Nat.le_refl _⟩, ⟨by (with_reducible repeat (first | apply Kd.R_alloc | apply Kd.R_drewN | apply Kd.R_drew)); exact Kd.R_mono (Kd.R_far (p := ⟨gb197, 2, none⟩) (Kd.R_drewN (Kd.R_far (p := ⟨gb197, 6, none⟩) (Kd.R_far (p := ⟨gb197, 5, none⟩) (Kd.R_far (p := ⟨gb197, 4, none⟩) (Kd.R_far (p := ⟨gb197, 3, none⟩) (Kd.R_far (p := ⟨gb197, 2, none⟩) (Kd.R_far (p := ⟨gb197, 1, none⟩) (Kd.R_far (p := ⟨gb197, 0, none⟩) (Kd.R_types HO_8.out BK197.out (by decide)) (fun _ hk => hk.2) (.int .i64 0)) (fun _ hk => hk.2) (.int .i64 0)) (fun _ hk => hk.2) (.int .i64 0)) (fun _ hk => hk.2) (.int .i64 0)) (fun _ hk => hk.2) (.int .i64 0)) (fun _ hk => hk.2) (.int .i64 0)) (fun _ hk => hk.2) (.int .i64 0)) _) (fun _ hk => hk.2) (.int .i64 t199)) (fun _ hk => trivial)⟩, ⟨by (with_reducible repeat (first | refine Bf ?_ _ | refine Bh ?_ | refine Bg ?_ _)); refine blk_far ?_ NB180_197.out _; (with_reducible repeat (first | refine Bf ?_ _ | refine Bh ?_ | refine Bg ?_ _)); refine blk_far ?_ NB180_197.out _; (with_reducible repeat (first | refine Bf ?_ _ | refine Bh ?_ | refine Bg ?_ _)); refine blk_far ?_ NB180_197.out _; (with_reducible repeat (first | refine Bf ?_ _ | refine Bh ?_ | refine Bg ?_ _)); refine blk_far ?_ NB180_197.out _; (with_reducible repeat (first | refine Bf ?_ _ | refine Bh ?_ | refine Bg ?_ _)); refine blk_far ?_ NB180_197.out _; (with_reducible repeat (first | refine Bf ?_ _ | refine Bh ?_ | refine Bg ?_ _)); refine blk_far ?_ NB180_197.out _; (with_reducible repeat (first | refine Bf ?_ _ | refine Bh ?_ | refine Bg ?_ _)); refine blk_far ?_ NB180_197.out _; (with_reducible repeat (first | refine Bf ?_ _ | refine Bh ?_ | refine Bg ?_ _)); refine blk_far ?_ NB180_197.out _; (with_reducible repeat (first | refine Bf ?_ _ | refine Bh ?_ | refine Bg ?_ _)); exact BK180.out⟩, ⟨by (with_reducible repeat (first | refine Bf ?_ _ | refine Bh ?_ | refine Bg ?_ _)); refine blk_put (cs := #[.int .i64 0, .int .i64 0, .int .i64 0, .int .i64 0, .int .i64 0, .int .i64 0, .int .i64 0]) ?_ 2 _ rfl; (with_reducible repeat (first | refine Bf ?_ _ | refine Bh ?_ | refine Bg ?_ _)); refine blk_put (cs := #[.int .i64 0, .int .i64 0, .int .i64 0, .int .i64 0, .int .i64 0, .int .i64 0, .int .i64 0]) ?_ 6 _ rfl; (with_reducible repeat (first | refine Bf ?_ _ | refine Bh ?_ | refine Bg ?_ _)); refine blk_put (cs := #[.int .i64 0, .int .i64 0, .int .i64 0, .int .i64 0, .int .i64 0, .int .i64 0, .int .i64 0]) ?_ 5 _ rfl; (with_reducible repeat (first | refine Bf ?_ _ | refine Bh ?_ | refine Bg ?_ _)); refine blk_put (cs := #[.int .i64 0, .int .i64 0, .int .i64 0, .int .i64 0, .int .i64 0, .int .i64 0, .int .i64 0]) ?_ 4 _ rfl; (with_reducible repeat (first | refine Bf ?_ _ | refine Bh ?_ | refine Bg ?_ _)); refine blk_put (cs := #[.int .i64 0, .int .i64 0, .int .i64 0, .int .i64 0, .int .i64 0, .int .i64 0, .int .i64 0]) ?_ 3 _ rfl; (with_reducible repeat (first | refine Bf ?_ _ | refine Bh ?_ | refine Bg ?_ _)); refine blk_put (cs := #[.int .i64 0, .int .i64 0, .int .i64 0, .int .i64 0, .int .i64 0, .int .i64 0, .int .i64 0]) ?_ 2 _ rfl; (with_reducible repeat (first | refine Bf ?_ _ | refine Bh ?_ | refine Bg ?_ _)); refine blk_put (cs := #[.int .i64 0, .int .i64 0, .int .i64 0, .int .i64 0, .int .i64 0, .int .i64 0, .int .i64 0]) ?_ 1 _ rfl; (with_reducible repeat (first | refine Bf ?_ _ | refine Bh ?_ | refine Bg ?_ _)); refine blk_put (cs := #[.int .i64 0, .int .i64 0, .int .i64 0, .int .i64 0, .int .i64 0, .int .i64 0, .int .i64 0]) ?_ 0 _ rfl; (with_reducible repeat (first | refine Bf ?_ _ | refine Bh ?_ | refine Bg ?_ _)); exact BK197.out⟩, ⟨by repeat (first | (with_reducible first | exact HB.out | apply Be | apply Bc | apply Bd | refine below_set ?_ GE180.out | refine below_set ?_ GE197.out) | exact HB.out)⟩⟩
        case round =>
         clear H'
         try clear c1
         try clear p1
         try clear q1
         try clear hx1
         try clear qi1
         try clear c2
         try clear p2
         try clear c3
         try clear c4
         try clear p6
         try clear c7
         try clear c13
         try clear c13b0
         try clear c14
         try clear c14b0
         try clear c15
         try clear c15b0
         try clear c15b1
         try clear c17
         try clear p19
         try clear q19
         try clear hx19
         try clear qi19
         try clear c20
         try clear c20b0
         try clear c20b1
         try clear c21
         try clear c21b0
         try clear c21b1
         try clear c26
         try clear hcz27_0
         try clear hcz27_1
         try clear hcz27_2
         try clear hcz27_3
         try clear hcz27_4
         try clear hcz27_5
         try clear hcz27_6
         try clear hfz27_0
         try clear hfz27_1
         try clear hfz27_2
         try clear hfz27_3
         try clear hfz27_4
         try clear hfz27_5
         try clear hfz27_6
         try clear hx192_0
         try clear hx193_0
         try clear hx198_0
         try clear p192
         try clear p193
         try clear p198
         try clear p2
         try clear q192
         try clear q193
         try clear q198
         obtain ⟨x14_3, x198001_3, rfl, HA, HK3, HO_8, BK180, BK197, HB⟩ := hrel
         cases gk with
         | zero => exact absurd HA.out (by simp [spec_ParseDate.l1])
         | succ k3 =>
          have H := HA.out; clear HA
          simp only [spec_ParseDate.l1] at H
          by_cases c28 : x14_3 < 12
          ·rw [if_pos c28] at H
           have c28b0 : decide (x14_3 < 12) = true := decide_eq_true c28
           clear c28
           by_cases c29 : 1 < (x8_2.length : Int)
           ·rw [if_pos c29] at H
            have c29b0 : decide (1 < (x8_2.length : Int)) = true := decide_eq_true c29
            have c29b1 : decide (1 < x8_2.length) = true := decide_eq_true (by omega)
            clear c29; replace H := Option.bind_eq_some_iff.mp H
            obtain ⟨t202, A300, H⟩ := H
            replace H : (if 0 ≤ x14_3 then (if x14_3 < (t202.length : Int) then ((spec_SameText.f (rdOf ByteArray.empty x8_2 1) (rdOf ByteArray.empty t202 x14_3)).bind fun t206 => (if t206 = true then (spec_ParseDate.l1 k3 x4_4 t184 x8_2 t200 (wrap64 (x14_3 + 1)) 0 (wrap64 (x14_3 + 1)) t199 0 0 0 0) else (spec_ParseDate.l1 k3 x4_4 t184 x8_2 t200 (wrap64 (x14_3 + 1)) 0 x198001_3 t199 0 0 0 0))) else (none)) else (none)) = some (r1, r2, r3, r4, r5, r6, r7, r8) := H
            have A30 := Aside0.mk A300; clear A300
            by_cases c31 : 0 ≤ x14_3
            ·rw [if_pos c31] at H
             have c31b0 : decide (0 ≤ x14_3) = true := decide_eq_true c31
             clear c31
             by_cases c32 : x14_3 < (t202.length : Int)
             ·rw [if_pos c32] at H
              have c32b0 : decide (x14_3 < (t202.length : Int)) = true := decide_eq_true c32
              clear c32; replace H := Option.bind_eq_some_iff.mp H
              obtain ⟨t206, A330, H⟩ := H
              replace H : (if t206 = true then (spec_ParseDate.l1 k3 x4_4 t184 x8_2 t200 (wrap64 (x14_3 + 1)) 0 (wrap64 (x14_3 + 1)) t199 0 0 0 0) else (spec_ParseDate.l1 k3 x4_4 t184 x8_2 t200 (wrap64 (x14_3 + 1)) 0 x198001_3 t199 0 0 0 0)) = some (r1, r2, r3, r4, r5, r6, r7, r8) := H
              have A33 := Aside0.mk A330; clear A330
              by_cases c34 : t206 = true
              ·subst c34
               have H1 : (spec_ParseDate.l1 k3 x4_4 t184 x8_2 t200 (wrap64 (x14_3 + 1)) 0 (wrap64 (x14_3 + 1)) t199 0 0 0 0) = some (r1, r2, r3, r4, r5, r6, r7, r8) := by rw [if_pos rfl] at H; exact H
               clear H; have H := H1; clear H1
               have H' := Aside0.mk H
               clear H
               try go_wp2
               have n0_ := Aside0.mk (Kd.R_drew HO_8.out); have n1_ := Aside0.mk (Bh BK180.out); have n2_ := Aside0.mk (Bh BK197.out); have n3_ := Aside0.mk (Bd HB.out); clear HO_8; clear BK180; clear BK197; clear HB; have HO_8 := n0_; have BK180 := n1_; have BK197 := n2_; have HB := n3_; clear n0_ n1_ n2_ n3_
               have p201 : 0 ≤ (1 : Int) := (by omega)
               have q201 : 1 < (x8_2.length : Int) := of_decide_eq_true (by first | (with_reducible assumption) | assumption)
               (try (obtain ⟨Ay_, cy_, ey_⟩ := Kd.R_slice HO_8.out; subst ey_))
               obtain ⟨ad201, e201, hx201_0⟩ := Kd.at_string (Kd.R_reads' HO_8.out).2.2 1 p201 q201
               obtain rfl : ad198 = ad201 := (by injection e201)
               (try simp only [show (1 : Int).toNat = 1 from rfl, Nat.reduceMul, Nat.reduceEqDiff, Go.Addr.add, ↓reduceIte] at hx201_0)
               have qi201 : (1 < x8_2.length) = True := eq_true (by omega)
               (try rw [show ((1 : Int)).toNat = 1 from rfl] at hx201_0)
               replace p201 := eq_true p201; replace q201 := eq_true q201
               refine start_ (n := 8) (S := fun w' => w'.cell? ⟨ad198.block, ad198.off + 1, none⟩ = some (.string (rdOf ByteArray.empty x8_2 1))) (ds := []) #[X,X,X,X,X,X,X,X] (by kernel_rfl) rfl rfl hx201_0 (fun hHeld => ?_); refine with_tabW spec_ParseDate.tab23 spec_ParseDate.bits23 (fun HT_ HW_ => ?_)
               generalize wr.drew = w35 at HO_8 BK180 BK197 HB hx201_0 hHeld ⊢
               refine pure_ (i := 0) (N := some 73) (v := ?_) (a' := ?_) (mb 8 1) rfl rfl (any_of HT_.out (by kernel_rfl)) (fun _ _ _ h => h) (Or.inl ⟨by rfl, ?_⟩) ?_ ?_
               rotate_left; (·intro w'; go_simp; (with_reducible rfl)); rotate_left; (·simp only [Act.put, sA, sZ, sS, i64_w, i32_w]; rfl)
               refine pure_ (i := 1) (N := some 74) (v := ?_) (a' := ?_) (mb 8 3) rfl rfl (any_of HT_.out (by kernel_rfl)) (fun _ _ _ h => h) (Or.inl ⟨by rfl, ?_⟩) ?_ ?_
               rotate_left; (·intro w'; go_simp; (with_reducible rfl)); rotate_left; (·simp only [Act.put, sA, sZ, sS, i64_w, i32_w]; rfl)
               refine pure_ (i := 4) (N := some 77) (v := ?_) (a' := ?_) (mb 8 19) rfl rfl (any_of HT_.out (by kernel_rfl)) (fun _ _ _ h => h) (Or.inl ⟨by rfl, ?_⟩) ?_ ?_
               rotate_left; (·intro w'; go_simp; (with_reducible rfl)); rotate_left; (·simp only [Act.put, sA, sZ, sS, i64_w, i32_w]; rfl)
               refine take_ (i := 2) (N := some 75) (v := ?_) (a' := ?_) (mb 8 23) rfl rfl (take_ofW HT_.out HW_.out (by kernel_rfl)) (fun _ _ _ h => h) (Or.inl ⟨by rfl, ?_⟩) hHeld ?_ ?_
               rotate_left; (·rintro w' s0; go_simp; (with_reducible rfl)); rotate_left; (·simp only [Act.put, sA, sZ, sS, i64_w, i32_w]; rfl)
               refine one_ (i := 3) (N := some 76) (mb 8 31) rfl rfl (one_of HT_.out (by kernel_rfl)) (by decide) (fun K hK => ?_)
               refine goes_ Tryd.func25 (by kernel_rfl) rfl #[] (by rfl) rfl rfl (by (try simp only [List.map_toArray, List.map_cons, List.map_nil]); first | done | rfl | (simp only [List.length_drop, List.length_take]; rfl)) ?_
               with_reducible refine (spec_l4Months.calls  t202 _ A30.out).mono ?_
               rintro e w36 ⟨v203, rfl, ho0, hb⟩
               have HS0_ := (hb.cell (World.block_lt_of_cell? _ _ (hHeld))).trans (hHeld)
               refine ⟨_, rfl, ?_⟩
               have n0_ := Aside0.mk (Kd.R_elder' (by (with_reducible repeat (first | apply Kd.R_alloc | apply Kd.R_drewN | apply Kd.R_drew)); exact HO_8.out) (Kd.R_base ho0) hb); have n1_ := Aside0.mk (Kd.R_lower (Kd.R_new' ho0 (Kd.R_lt (by (with_reducible repeat (first | apply Kd.R_alloc | apply Kd.R_drewN | apply Kd.R_drew)); exact HO_8.out))) (below_size (by repeat (first | (with_reducible first | exact HB.out | apply Be | apply Bc | apply Bd | refine below_set ?_ GE180.out | refine below_set ?_ GE197.out) | exact HB.out)))); have n2_ := Aside0.mk (blk_below (g := gb180) (o := .cells #[.int .i64 0, .int .i64 0, .int .i64 0, .int .i64 0, .int .i64 0, .int .i64 0, .int .i64 0] 24 (0, 0)) (by (with_reducible repeat (first | refine Bf ?_ _ | refine Bh ?_ | refine Bg ?_ _)); exact BK180.out) hb); have n3_ := Aside0.mk (blk_below (g := gb197) (o := .cells #[.int .i64 0, .int .i64 x198001_3, .int .i64 t199, .int .i64 0, .int .i64 0, .int .i64 0, .int .i64 0] 24 (0, 0)) (by (with_reducible repeat (first | refine Bf ?_ _ | refine Bh ?_ | refine Bg ?_ _)); exact BK197.out) hb); have n4_ := Aside0.mk (below_step (by repeat (first | (with_reducible first | exact HB.out | apply Be | apply Bc | apply Bd | refine below_set ?_ GE180.out | refine below_set ?_ GE197.out) | exact HB.out)) hb); clear HO_8; clear BK180; clear BK197; clear HB; have HO_8 := n0_; have HO204 := n1_; have BK180 := n2_; have BK197 := n3_; have HB := n4_; clear n0_ n1_ n2_ n3_ n4_
               (try clear hb)
               (try clear hb2)
               (try clear hk)
               (try clear hi)
               (try clear ho0)
               obtain ⟨Ao37, co37, eo37⟩ := Kd.R_slice HO204.out
               (first | subst eo37 | (injection eo37 with f1_ f2_ f3_; have f4_ := f1_.symm; have f5_ := f3_.symm; clear f1_ f2_ f3_; subst f4_; subst f5_))
               have p205 : 0 ≤ (x14_3 : Int) := of_decide_eq_true (by first | (with_reducible assumption) | assumption)
               have q205 : x14_3 < (t202.length : Int) := of_decide_eq_true (by first | (with_reducible assumption) | assumption)
               (try (obtain ⟨Ay_, cy_, ey_⟩ := Kd.R_slice HO204.out; subst ey_))
               obtain ⟨ad205, e205, hx205_0⟩ := Kd.at_string (Kd.R_reads' HO204.out).2.2 x14_3 p205 q205
               cases e205
               replace p205 := eq_true p205; replace q205 := eq_true q205
               refine hK.out _ _ HS0_ (fun hHeld0_ => ?_)
               clear hK K
               refine more_ (S' := fun w' => w'.cell? ⟨ad198.block, ad198.off + 1, none⟩ = some (.string (rdOf ByteArray.empty x8_2 1)) ∧ w'.cell? (ad205.add (x14_3).toNat) = some (.string (rdOf ByteArray.empty t202 x14_3))) (fun _ h_ => h_.1) _ _ _ _ ⟨HS0_, hx205_0⟩ (fun hHeld => ?_)
               clear hHeld0_
               refine norm_ (a' := ?_) ?_ ?_
               rotate_left
               ·show Act.put _ (some 76) _ = _
                simp only [Act.put, sA, sZ, sS, i64_w, i32_w]
                rfl
               refine pure_ (i := 5) (N := some 78) (v := ?_) (a' := ?_) (mb 8 63) rfl rfl (any_of HT_.out (by kernel_rfl)) (fun _ _ _ h => h) (Or.inl ⟨by rfl, ?_⟩) ?_ ?_
               rotate_left; (·intro w'; go_simp; (with_reducible rfl)); rotate_left; (·simp only [Act.put, sA, sZ, sS, i64_w, i32_w]; rfl)
               refine take_ (i := 6) (N := some 79) (v := ?_) (a' := ?_) (mb 8 127) rfl rfl (take_ofW HT_.out HW_.out (by kernel_rfl)) (fun _ _ _ h => h) (Or.inl ⟨by rfl, ?_⟩) hHeld ?_ ?_
               rotate_left; (·rintro w' ⟨s0, s1⟩; go_simp; (with_reducible rfl)); rotate_left; (·simp only [Act.put, sA, sZ, sS, i64_w, i32_w]; rfl)
               refine one_ (i := 7) (N := some 80) (mb 8 255) rfl rfl (one_of HT_.out (by kernel_rfl)) (by decide) (fun K hK => ?_)
               refine goes_ Tryd.func45 (by kernel_rfl) rfl #[.string (rdOf ByteArray.empty x8_2 1), .string (rdOf ByteArray.empty t202 x14_3)] (by rfl) rfl rfl (by (try simp only [List.map_toArray, List.map_cons, List.map_nil]); first | done | rfl | (simp only [List.length_drop, List.length_take]; rfl)) ?_
               with_reducible refine (spec_SameText.calls (rdOf ByteArray.empty x8_2 1) (rdOf ByteArray.empty t202 x14_3) true _ A33.out).mono ?_
               rintro e w38 ⟨rfl, hb⟩
               have HS0_ := (hb.cell (World.block_lt_of_cell? _ _ (hHeld.1))).trans (hHeld.1); have HS1_ := (hb.cell (World.block_lt_of_cell? _ _ (hHeld.2))).trans (hHeld.2)
               refine ⟨_, rfl, ?_⟩
               have n0_ := Aside0.mk (Kd.R_below (by (with_reducible repeat (first | apply Kd.R_alloc | apply Kd.R_drewN | apply Kd.R_drew)); exact HO_8.out) hb); have n1_ := Aside0.mk (Kd.R_below (by (with_reducible repeat (first | apply Kd.R_alloc | apply Kd.R_drewN | apply Kd.R_drew)); exact HO204.out) hb); have n2_ := Aside0.mk (blk_below (g := gb180) (o := .cells #[.int .i64 0, .int .i64 0, .int .i64 0, .int .i64 0, .int .i64 0, .int .i64 0, .int .i64 0] 24 (0, 0)) (by (with_reducible repeat (first | refine Bf ?_ _ | refine Bh ?_ | refine Bg ?_ _)); exact BK180.out) hb); have n3_ := Aside0.mk (blk_below (g := gb197) (o := .cells #[.int .i64 0, .int .i64 x198001_3, .int .i64 t199, .int .i64 0, .int .i64 0, .int .i64 0, .int .i64 0] 24 (0, 0)) (by (with_reducible repeat (first | refine Bf ?_ _ | refine Bh ?_ | refine Bg ?_ _)); exact BK197.out) hb); have n4_ := Aside0.mk (below_step (by repeat (first | (with_reducible first | exact HB.out | apply Be | apply Bc | apply Bd | refine below_set ?_ GE180.out | refine below_set ?_ GE197.out) | exact HB.out)) hb); clear HO_8; clear HO204; clear BK180; clear BK197; clear HB; have HO_8 := n0_; have HO204 := n1_; have BK180 := n2_; have BK197 := n3_; have HB := n4_; clear n0_ n1_ n2_ n3_ n4_
               (try clear hb)
               (try clear hb2)
               (try clear hk)
               (try clear hi)
               refine hK.out _ _ ⟨HS0_, HS1_⟩ (fun hHeld => ?_)
               clear hK K
               refine norm_ (a' := ?_) ?_ ?_
               rotate_left
               ·show Act.put _ (some 80) _ = _
                simp only [Act.put, sA, sZ, sS, i64_w, i32_w]
                rfl
               refine done_ (done_of HT_.out (by kernel_rfl)) ?_
               have hnb39 := NB197_180.out; have hnc39 := NB180_197.out
               have hcz40_0 : w38.cell? ⟨gb197, 0, none⟩ = some (.int .i64 0) := (Ba BK197.out 0).trans rfl
               have hcz40_1 : w38.cell? ⟨gb197, 1, none⟩ = some (.int .i64 x198001_3) := (Ba BK197.out 1).trans rfl
               have hcz40_2 : w38.cell? ⟨gb197, 2, none⟩ = some (.int .i64 t199) := (Ba BK197.out 2).trans rfl
               have hcz40_3 : w38.cell? ⟨gb197, 3, none⟩ = some (.int .i64 0) := (Ba BK197.out 3).trans rfl
               have hcz40_4 : w38.cell? ⟨gb197, 4, none⟩ = some (.int .i64 0) := (Ba BK197.out 4).trans rfl
               have hcz40_5 : w38.cell? ⟨gb197, 5, none⟩ = some (.int .i64 0) := (Ba BK197.out 5).trans rfl
               have hcz40_6 : w38.cell? ⟨gb197, 6, none⟩ = some (.int .i64 0) := (Ba BK197.out 6).trans rfl
               have hfz40_0 := Bb BK197.out 0; have hfz40_1 := Bb BK197.out 1; have hfz40_2 := Bb BK197.out 2; have hfz40_3 := Bb BK197.out 3; have hfz40_4 := Bb BK197.out 4; have hfz40_5 := Bb BK197.out 5; have hfz40_6 := Bb BK197.out 6
               try go_wp2
               go_roundg k3
               case measure => have := HJ4.out; have := HK2.out; have := HK3.out; omega
               case rel => exact ⟨(wrap64 (x14_3 + 1)), (wrap64 (x14_3 + 1)), (by first | rfl | (simp; done) | (simp [*]; done)), H', ⟨by have := HJ4.out; have := HK2.out; have := HK3.out; omega⟩, ⟨by (with_reducible repeat (first | apply Kd.R_alloc | apply Kd.R_drewN | apply Kd.R_drew)); exact Kd.R_mono (Kd.R_far (p := ⟨gb197, 1, none⟩) (Kd.R_types HO_8.out BK197.out (by decide)) (fun _ hk => hk.2) (.int .i64 (wrap64 (x14_3 + 1)))) (fun _ hk => trivial)⟩, ⟨by (with_reducible repeat (first | refine Bf ?_ _ | refine Bh ?_ | refine Bg ?_ _)); refine blk_far ?_ NB180_197.out _; (with_reducible repeat (first | refine Bf ?_ _ | refine Bh ?_ | refine Bg ?_ _)); exact BK180.out⟩, ⟨by (with_reducible repeat (first | refine Bf ?_ _ | refine Bh ?_ | refine Bg ?_ _)); refine blk_put (cs := #[.int .i64 0, .int .i64 x198001_3, .int .i64 t199, .int .i64 0, .int .i64 0, .int .i64 0, .int .i64 0]) ?_ 1 _ rfl; (with_reducible repeat (first | refine Bf ?_ _ | refine Bh ?_ | refine Bg ?_ _)); exact BK197.out⟩, ⟨by repeat (first | (with_reducible first | exact HB.out | apply Be | apply Bc | apply Bd | refine below_set ?_ GE180.out | refine below_set ?_ GE197.out) | exact HB.out)⟩⟩
              replace c34 := Bool.eq_false_iff.mpr c34
              subst c34
              have H1 : (spec_ParseDate.l1 k3 x4_4 t184 x8_2 t200 (wrap64 (x14_3 + 1)) 0 x198001_3 t199 0 0 0 0) = some (r1, r2, r3, r4, r5, r6, r7, r8) := by rw [if_neg (show ¬ (false = true) by decide)] at H; exact H
              clear H; have H := H1; clear H1
              have H' := Aside0.mk H
              clear H
              try go_wp2
              have n0_ := Aside0.mk (Kd.R_drew HO_8.out); have n1_ := Aside0.mk (Bh BK180.out); have n2_ := Aside0.mk (Bh BK197.out); have n3_ := Aside0.mk (Bd HB.out); clear HO_8; clear BK180; clear BK197; clear HB; have HO_8 := n0_; have BK180 := n1_; have BK197 := n2_; have HB := n3_; clear n0_ n1_ n2_ n3_
              have p201 : 0 ≤ (1 : Int) := (by omega)
              have q201 : 1 < (x8_2.length : Int) := of_decide_eq_true (by first | (with_reducible assumption) | assumption)
              (try (obtain ⟨Ay_, cy_, ey_⟩ := Kd.R_slice HO_8.out; subst ey_))
              obtain ⟨ad201, e201, hx201_0⟩ := Kd.at_string (Kd.R_reads' HO_8.out).2.2 1 p201 q201
              obtain rfl : ad198 = ad201 := (by injection e201)
              (try simp only [show (1 : Int).toNat = 1 from rfl, Nat.reduceMul, Nat.reduceEqDiff, Go.Addr.add, ↓reduceIte] at hx201_0)
              have qi201 : (1 < x8_2.length) = True := eq_true (by omega)
              (try rw [show ((1 : Int)).toNat = 1 from rfl] at hx201_0)
              replace p201 := eq_true p201; replace q201 := eq_true q201
              refine start_ (n := 8) (S := fun w' => w'.cell? ⟨ad198.block, ad198.off + 1, none⟩ = some (.string (rdOf ByteArray.empty x8_2 1))) (ds := []) #[X,X,X,X,X,X,X,X] (by kernel_rfl) rfl rfl hx201_0 (fun hHeld => ?_); refine with_tabW spec_ParseDate.tab23 spec_ParseDate.bits23 (fun HT_ HW_ => ?_)
              generalize wr.drew = w41 at HO_8 BK180 BK197 HB hx201_0 hHeld ⊢
              refine pure_ (i := 0) (N := some 73) (v := ?_) (a' := ?_) (mb 8 1) rfl rfl (any_of HT_.out (by kernel_rfl)) (fun _ _ _ h => h) (Or.inl ⟨by rfl, ?_⟩) ?_ ?_
              rotate_left; (·intro w'; go_simp; (with_reducible rfl)); rotate_left; (·simp only [Act.put, sA, sZ, sS, i64_w, i32_w]; rfl)
              refine pure_ (i := 1) (N := some 74) (v := ?_) (a' := ?_) (mb 8 3) rfl rfl (any_of HT_.out (by kernel_rfl)) (fun _ _ _ h => h) (Or.inl ⟨by rfl, ?_⟩) ?_ ?_
              rotate_left; (·intro w'; go_simp; (with_reducible rfl)); rotate_left; (·simp only [Act.put, sA, sZ, sS, i64_w, i32_w]; rfl)
              refine pure_ (i := 4) (N := some 77) (v := ?_) (a' := ?_) (mb 8 19) rfl rfl (any_of HT_.out (by kernel_rfl)) (fun _ _ _ h => h) (Or.inl ⟨by rfl, ?_⟩) ?_ ?_
              rotate_left; (·intro w'; go_simp; (with_reducible rfl)); rotate_left; (·simp only [Act.put, sA, sZ, sS, i64_w, i32_w]; rfl)
              refine take_ (i := 2) (N := some 75) (v := ?_) (a' := ?_) (mb 8 23) rfl rfl (take_ofW HT_.out HW_.out (by kernel_rfl)) (fun _ _ _ h => h) (Or.inl ⟨by rfl, ?_⟩) hHeld ?_ ?_
              rotate_left; (·rintro w' s0; go_simp; (with_reducible rfl)); rotate_left; (·simp only [Act.put, sA, sZ, sS, i64_w, i32_w]; rfl)
              refine one_ (i := 3) (N := some 76) (mb 8 31) rfl rfl (one_of HT_.out (by kernel_rfl)) (by decide) (fun K hK => ?_)
              refine goes_ Tryd.func25 (by kernel_rfl) rfl #[] (by rfl) rfl rfl (by (try simp only [List.map_toArray, List.map_cons, List.map_nil]); first | done | rfl | (simp only [List.length_drop, List.length_take]; rfl)) ?_
              with_reducible refine (spec_l4Months.calls  t202 _ A30.out).mono ?_
              rintro e w42 ⟨v203, rfl, ho0, hb⟩
              have HS0_ := (hb.cell (World.block_lt_of_cell? _ _ (hHeld))).trans (hHeld)
              refine ⟨_, rfl, ?_⟩
              have n0_ := Aside0.mk (Kd.R_elder' (by (with_reducible repeat (first | apply Kd.R_alloc | apply Kd.R_drewN | apply Kd.R_drew)); exact HO_8.out) (Kd.R_base ho0) hb); have n1_ := Aside0.mk (Kd.R_lower (Kd.R_new' ho0 (Kd.R_lt (by (with_reducible repeat (first | apply Kd.R_alloc | apply Kd.R_drewN | apply Kd.R_drew)); exact HO_8.out))) (below_size (by repeat (first | (with_reducible first | exact HB.out | apply Be | apply Bc | apply Bd | refine below_set ?_ GE180.out | refine below_set ?_ GE197.out) | exact HB.out)))); have n2_ := Aside0.mk (blk_below (g := gb180) (o := .cells #[.int .i64 0, .int .i64 0, .int .i64 0, .int .i64 0, .int .i64 0, .int .i64 0, .int .i64 0] 24 (0, 0)) (by (with_reducible repeat (first | refine Bf ?_ _ | refine Bh ?_ | refine Bg ?_ _)); exact BK180.out) hb); have n3_ := Aside0.mk (blk_below (g := gb197) (o := .cells #[.int .i64 0, .int .i64 x198001_3, .int .i64 t199, .int .i64 0, .int .i64 0, .int .i64 0, .int .i64 0] 24 (0, 0)) (by (with_reducible repeat (first | refine Bf ?_ _ | refine Bh ?_ | refine Bg ?_ _)); exact BK197.out) hb); have n4_ := Aside0.mk (below_step (by repeat (first | (with_reducible first | exact HB.out | apply Be | apply Bc | apply Bd | refine below_set ?_ GE180.out | refine below_set ?_ GE197.out) | exact HB.out)) hb); clear HO_8; clear BK180; clear BK197; clear HB; have HO_8 := n0_; have HO204 := n1_; have BK180 := n2_; have BK197 := n3_; have HB := n4_; clear n0_ n1_ n2_ n3_ n4_
              (try clear hb)
              (try clear hb2)
              (try clear hk)
              (try clear hi)
              (try clear ho0)
              obtain ⟨Ao43, co43, eo43⟩ := Kd.R_slice HO204.out
              (first | subst eo43 | (injection eo43 with f1_ f2_ f3_; have f4_ := f1_.symm; have f5_ := f3_.symm; clear f1_ f2_ f3_; subst f4_; subst f5_))
              have p205 : 0 ≤ (x14_3 : Int) := of_decide_eq_true (by first | (with_reducible assumption) | assumption)
              have q205 : x14_3 < (t202.length : Int) := of_decide_eq_true (by first | (with_reducible assumption) | assumption)
              (try (obtain ⟨Ay_, cy_, ey_⟩ := Kd.R_slice HO204.out; subst ey_))
              obtain ⟨ad205, e205, hx205_0⟩ := Kd.at_string (Kd.R_reads' HO204.out).2.2 x14_3 p205 q205
              cases e205
              replace p205 := eq_true p205; replace q205 := eq_true q205
              refine hK.out _ _ HS0_ (fun hHeld0_ => ?_)
              clear hK K
              refine more_ (S' := fun w' => w'.cell? ⟨ad198.block, ad198.off + 1, none⟩ = some (.string (rdOf ByteArray.empty x8_2 1)) ∧ w'.cell? (ad205.add (x14_3).toNat) = some (.string (rdOf ByteArray.empty t202 x14_3))) (fun _ h_ => h_.1) _ _ _ _ ⟨HS0_, hx205_0⟩ (fun hHeld => ?_)
              clear hHeld0_
              refine norm_ (a' := ?_) ?_ ?_
              rotate_left
              ·show Act.put _ (some 76) _ = _
               simp only [Act.put, sA, sZ, sS, i64_w, i32_w]
               rfl
              refine pure_ (i := 5) (N := some 78) (v := ?_) (a' := ?_) (mb 8 63) rfl rfl (any_of HT_.out (by kernel_rfl)) (fun _ _ _ h => h) (Or.inl ⟨by rfl, ?_⟩) ?_ ?_
              rotate_left; (·intro w'; go_simp; (with_reducible rfl)); rotate_left; (·simp only [Act.put, sA, sZ, sS, i64_w, i32_w]; rfl)
              refine take_ (i := 6) (N := some 79) (v := ?_) (a' := ?_) (mb 8 127) rfl rfl (take_ofW HT_.out HW_.out (by kernel_rfl)) (fun _ _ _ h => h) (Or.inl ⟨by rfl, ?_⟩) hHeld ?_ ?_
              rotate_left; (·rintro w' ⟨s0, s1⟩; go_simp; (with_reducible rfl)); rotate_left; (·simp only [Act.put, sA, sZ, sS, i64_w, i32_w]; rfl)
              refine one_ (i := 7) (N := some 80) (mb 8 255) rfl rfl (one_of HT_.out (by kernel_rfl)) (by decide) (fun K hK => ?_)
              refine goes_ Tryd.func45 (by kernel_rfl) rfl #[.string (rdOf ByteArray.empty x8_2 1), .string (rdOf ByteArray.empty t202 x14_3)] (by rfl) rfl rfl (by (try simp only [List.map_toArray, List.map_cons, List.map_nil]); first | done | rfl | (simp only [List.length_drop, List.length_take]; rfl)) ?_
              with_reducible refine (spec_SameText.calls (rdOf ByteArray.empty x8_2 1) (rdOf ByteArray.empty t202 x14_3) false _ A33.out).mono ?_
              rintro e w44 ⟨rfl, hb⟩
              have HS0_ := (hb.cell (World.block_lt_of_cell? _ _ (hHeld.1))).trans (hHeld.1); have HS1_ := (hb.cell (World.block_lt_of_cell? _ _ (hHeld.2))).trans (hHeld.2)
              refine ⟨_, rfl, ?_⟩
              have n0_ := Aside0.mk (Kd.R_below (by (with_reducible repeat (first | apply Kd.R_alloc | apply Kd.R_drewN | apply Kd.R_drew)); exact HO_8.out) hb); have n1_ := Aside0.mk (Kd.R_below (by (with_reducible repeat (first | apply Kd.R_alloc | apply Kd.R_drewN | apply Kd.R_drew)); exact HO204.out) hb); have n2_ := Aside0.mk (blk_below (g := gb180) (o := .cells #[.int .i64 0, .int .i64 0, .int .i64 0, .int .i64 0, .int .i64 0, .int .i64 0, .int .i64 0] 24 (0, 0)) (by (with_reducible repeat (first | refine Bf ?_ _ | refine Bh ?_ | refine Bg ?_ _)); exact BK180.out) hb); have n3_ := Aside0.mk (blk_below (g := gb197) (o := .cells #[.int .i64 0, .int .i64 x198001_3, .int .i64 t199, .int .i64 0, .int .i64 0, .int .i64 0, .int .i64 0] 24 (0, 0)) (by (with_reducible repeat (first | refine Bf ?_ _ | refine Bh ?_ | refine Bg ?_ _)); exact BK197.out) hb); have n4_ := Aside0.mk (below_step (by repeat (first | (with_reducible first | exact HB.out | apply Be | apply Bc | apply Bd | refine below_set ?_ GE180.out | refine below_set ?_ GE197.out) | exact HB.out)) hb); clear HO_8; clear HO204; clear BK180; clear BK197; clear HB; have HO_8 := n0_; have HO204 := n1_; have BK180 := n2_; have BK197 := n3_; have HB := n4_; clear n0_ n1_ n2_ n3_ n4_
              (try clear hb)
              (try clear hb2)
              (try clear hk)
              (try clear hi)
              refine hK.out _ _ ⟨HS0_, HS1_⟩ (fun hHeld => ?_)
              clear hK K
              refine norm_ (a' := ?_) ?_ ?_
              rotate_left
              ·show Act.put _ (some 80) _ = _
               simp only [Act.put, sA, sZ, sS, i64_w, i32_w]
               rfl
              refine done_ (done_of HT_.out (by kernel_rfl)) ?_
              try go_wp2
              go_roundg k3
              case measure => have := HJ4.out; have := HK2.out; have := HK3.out; omega
              case rel => exact ⟨(wrap64 (x14_3 + 1)), (x198001_3), (by first | rfl | (simp; done) | (simp [*]; done)), H', ⟨by have := HJ4.out; have := HK2.out; have := HK3.out; omega⟩, ⟨by (with_reducible repeat (first | apply Kd.R_alloc | apply Kd.R_drewN | apply Kd.R_drew)); exact Kd.R_mono HO_8.out (fun _ hk => trivial)⟩, ⟨by (with_reducible repeat (first | refine Bf ?_ _ | refine Bh ?_ | refine Bg ?_ _)); exact BK180.out⟩, ⟨by (with_reducible repeat (first | refine Bf ?_ _ | refine Bh ?_ | refine Bg ?_ _)); exact BK197.out⟩, ⟨by repeat (first | (with_reducible first | exact HB.out | apply Be | apply Bc | apply Bd | refine below_set ?_ GE180.out | refine below_set ?_ GE197.out) | exact HB.out)⟩⟩
             rw [if_neg c32] at H
             exact absurd H (by simp)
            rw [if_neg c31] at H
            exact absurd H (by simp)
           rw [if_neg c29] at H
           exact absurd H (by simp)
          rw [if_neg c28] at H
          have c28b0 : decide (x14_3 < 12) = false := decide_eq_false c28
          clear c28
          by_cases c45 : 2 < (x8_2.length : Int)
          ·rw [if_pos c45] at H
           have c45b0 : decide (2 < (x8_2.length : Int)) = true := decide_eq_true c45
           have c45b1 : decide (2 < x8_2.length) = true := decide_eq_true (by omega)
           clear c45; replace H := Option.bind_eq_some_iff.mp H
           obtain ⟨⟨t208, t209⟩, A460, H⟩ := H
           replace H : (if 3 < (x8_2.length : Int) then ((spec_l4Time.f k3 (rdOf ByteArray.empty x8_2 3) t208 x198001_3 t199 0 0 0 0).bind fun bt211 => (if 4 < (x8_2.length : Int) then ((spec_l4Offset.f k3 (rdOf ByteArray.empty x8_2 4)).bind fun bt220 => (if t200 = true then (if t209 = true then (if bt211.2.2.2.2.2.2.2 = true then (if bt220.2 = true then ((spec_DateValid.f k3 bt211.1 bt211.2.1 bt211.2.2.1 bt211.2.2.2.1 bt211.2.2.2.2.1 bt211.2.2.2.2.2.1 bt220.1).bind fun t222 => (if t222 = true then (if t184 = true then ((spec_WeekdayOf.f k3 bt211.1 bt211.2.1 bt211.2.2.1 bt211.2.2.2.1 bt211.2.2.2.2.1 bt211.2.2.2.2.2.1 bt220.1).bind fun t223 => ((spec_SameText.f x4_4 t223).bind fun t224 => (if t224 = true then (some (bt211.1, bt211.2.1, bt211.2.2.1, bt211.2.2.2.1, bt211.2.2.2.2.1, bt211.2.2.2.2.2.1, bt220.1, true)) else (some (0, 0, 0, 0, 0, 0, 0, false))))) else (some (bt211.1, bt211.2.1, bt211.2.2.1, bt211.2.2.2.1, bt211.2.2.2.2.1, bt211.2.2.2.2.2.1, bt220.1, true))) else (some (0, 0, 0, 0, 0, 0, 0, false)))) else (some (0, 0, 0, 0, 0, 0, 0, false))) else (some (0, 0, 0, 0, 0, 0, 0, false))) else (some (0, 0, 0, 0, 0, 0, 0, false))) else (some (0, 0, 0, 0, 0, 0, 0, false)))) else (none))) else (none)) = some (r1, r2, r3, r4, r5, r6, r7, r8) := H
           have A46 := Aside0.mk A460; clear A460
           by_cases c47 : 3 < (x8_2.length : Int)
           ·rw [if_pos c47] at H
            have c47b0 : decide (3 < (x8_2.length : Int)) = true := decide_eq_true c47
            have c47b1 : decide (3 < x8_2.length) = true := decide_eq_true (by omega)
            clear c47; replace H := Option.bind_eq_some_iff.mp H
            obtain ⟨⟨t211, t212, t213, t214, t215, t216, t217, t218⟩, A480, H⟩ := H
            replace H : (if 4 < (x8_2.length : Int) then ((spec_l4Offset.f k3 (rdOf ByteArray.empty x8_2 4)).bind fun bt220 => (if t200 = true then (if t209 = true then (if t218 = true then (if bt220.2 = true then ((spec_DateValid.f k3 t211 t212 t213 t214 t215 t216 bt220.1).bind fun t222 => (if t222 = true then (if t184 = true then ((spec_WeekdayOf.f k3 t211 t212 t213 t214 t215 t216 bt220.1).bind fun t223 => ((spec_SameText.f x4_4 t223).bind fun t224 => (if t224 = true then (some (t211, t212, t213, t214, t215, t216, bt220.1, true)) else (some (0, 0, 0, 0, 0, 0, 0, false))))) else (some (t211, t212, t213, t214, t215, t216, bt220.1, true))) else (some (0, 0, 0, 0, 0, 0, 0, false)))) else (some (0, 0, 0, 0, 0, 0, 0, false))) else (some (0, 0, 0, 0, 0, 0, 0, false))) else (some (0, 0, 0, 0, 0, 0, 0, false))) else (some (0, 0, 0, 0, 0, 0, 0, false)))) else (none)) = some (r1, r2, r3, r4, r5, r6, r7, r8) := H
            have A48 := Aside0.mk A480; clear A480
            by_cases c49 : 4 < (x8_2.length : Int)
            ·rw [if_pos c49] at H
             have c49b0 : decide (4 < (x8_2.length : Int)) = true := decide_eq_true c49
             have c49b1 : decide (4 < x8_2.length) = true := decide_eq_true (by omega)
             clear c49; replace H := Option.bind_eq_some_iff.mp H
             obtain ⟨⟨t220, t221⟩, A500, H⟩ := H
             replace H : (if t200 = true then (if t209 = true then (if t218 = true then (if t221 = true then ((spec_DateValid.f k3 t211 t212 t213 t214 t215 t216 t220).bind fun t222 => (if t222 = true then (if t184 = true then ((spec_WeekdayOf.f k3 t211 t212 t213 t214 t215 t216 t220).bind fun t223 => ((spec_SameText.f x4_4 t223).bind fun t224 => (if t224 = true then (some (t211, t212, t213, t214, t215, t216, t220, true)) else (some (0, 0, 0, 0, 0, 0, 0, false))))) else (some (t211, t212, t213, t214, t215, t216, t220, true))) else (some (0, 0, 0, 0, 0, 0, 0, false)))) else (some (0, 0, 0, 0, 0, 0, 0, false))) else (some (0, 0, 0, 0, 0, 0, 0, false))) else (some (0, 0, 0, 0, 0, 0, 0, false))) else (some (0, 0, 0, 0, 0, 0, 0, false))) = some (r1, r2, r3, r4, r5, r6, r7, r8) := H
             have A50 := Aside0.mk A500; clear A500
             have HH := Aside0.mk H; clear H
             have p207 : 0 ≤ (2 : Int) := (by omega)
             have q207 : 2 < (x8_2.length : Int) := of_decide_eq_true (by first | (with_reducible assumption) | assumption)
             (try (obtain ⟨Ay_, cy_, ey_⟩ := Kd.R_slice HO_8.out; subst ey_))
             obtain ⟨ad207, e207, hx207_0⟩ := Kd.at_string (Kd.R_reads' HO_8.out).2.2 2 p207 q207
             obtain rfl : ad198 = ad207 := (by injection e207)
             (try simp only [show (2 : Int).toNat = 2 from rfl, Nat.reduceMul, Nat.reduceEqDiff, Go.Addr.add, ↓reduceIte] at hx207_0)
             have qi207 : (2 < x8_2.length) = True := eq_true (by omega)
             (try rw [show ((2 : Int)).toNat = 2 from rfl] at hx207_0)
             replace p207 := eq_true p207; replace q207 := eq_true q207
             try go_wp2_with (first | ((with_reducible refine gate_callee (f := 44) rfl ?_); refine goesL_ (some 88) rfl rfl Tryd.func44 (by kernel_rfl) rfl #[.string (rdOf ByteArray.empty x8_2 2), .int .i64 4, .int .i64 4] rfl (by (try simp only [List.map_toArray, List.map_cons, List.map_nil]); first | done | rfl | (simp only [List.length_drop, List.length_take]; rfl)) ?_; (with_reducible refine (spec_l4Digits.calls k3 (rdOf ByteArray.empty x8_2 2) 4 4 t208 t209 _ A46.out).mono ?_); rintro e w' ⟨rfl, ⟨nd, rfl⟩⟩; refine ⟨_, rfl, ?_⟩; (try (rw [drewN_self wr]; generalize hq_ : World.drewN wr _ = wr; have n0_ : Aside0 (Kd.R Kd.string 9 wr w.heap.size (fun _ => True) (.slice (some ad198) x8_2.length co24) x8_2) := ⟨by rw [← hq_]; exact (by (with_reducible repeat (first | apply Kd.R_alloc | apply Kd.R_drewN | apply Kd.R_drew)); exact HO_8.out)⟩; have n1_ : Aside0 (wr.heap[gb180]? = some (.cells #[.int .i64 0, .int .i64 0, .int .i64 0, .int .i64 0, .int .i64 0, .int .i64 0, .int .i64 0] 24 (0, 0))) := ⟨by rw [← hq_]; exact (by (with_reducible repeat (first | refine Bf ?_ _ | refine Bh ?_ | refine Bg ?_ _)); exact BK180.out)⟩; have n2_ : Aside0 (wr.heap[gb197]? = some (.cells #[.int .i64 0, .int .i64 x198001_3, .int .i64 t199, .int .i64 0, .int .i64 0, .int .i64 0, .int .i64 0] 24 (0, 0))) := ⟨by rw [← hq_]; exact (by (with_reducible repeat (first | refine Bf ?_ _ | refine Bh ?_ | refine Bg ?_ _)); exact BK197.out)⟩; have n3_ : Aside0 (Below w.heap.size w wr) := ⟨by rw [← hq_]; exact (by repeat (first | (with_reducible first | exact HB.out | apply Be | apply Bc | apply Bd | refine below_set ?_ GE180.out | refine below_set ?_ GE197.out) | exact HB.out))⟩; clear HO_8 BK180 BK197 HB hq_; have HO_8 := n0_; have BK180 := n1_; have BK197 := n2_; have HB := n3_; clear n0_ n1_ n2_ n3_)); have hnb61 := NB197_180.out; have hnc61 := NB180_197.out; have hcz62_0 : wr.cell? ⟨gb197, 0, none⟩ = some (.int .i64 0) := (Ba BK197.out 0).trans rfl; have hcz62_1 : wr.cell? ⟨gb197, 1, none⟩ = some (.int .i64 x198001_3) := (Ba BK197.out 1).trans rfl; have hcz62_2 : wr.cell? ⟨gb197, 2, none⟩ = some (.int .i64 t199) := (Ba BK197.out 2).trans rfl; have hcz62_3 : wr.cell? ⟨gb197, 3, none⟩ = some (.int .i64 0) := (Ba BK197.out 3).trans rfl; have hcz62_4 : wr.cell? ⟨gb197, 4, none⟩ = some (.int .i64 0) := (Ba BK197.out 4).trans rfl; have hcz62_5 : wr.cell? ⟨gb197, 5, none⟩ = some (.int .i64 0) := (Ba BK197.out 5).trans rfl; have hcz62_6 : wr.cell? ⟨gb197, 6, none⟩ = some (.int .i64 0) := (Ba BK197.out 6).trans rfl; have hfz62_0 := Bb BK197.out 0; have hfz62_1 := Bb BK197.out 1; have hfz62_2 := Bb BK197.out 2; have hfz62_3 := Bb BK197.out 3; have hfz62_4 := Bb BK197.out 4; have hfz62_5 := Bb BK197.out 5; have hfz62_6 := Bb BK197.out 6))
             have n0_ : Aside0 (Kd.R Kd.string 9 (wr.setCell ⟨gb197, 0, none⟩ (.int .i64 t208)) w.heap.size (fun _ => True) (.slice (some ad198) x8_2.length co24) x8_2) := ⟨by (with_reducible repeat (first | apply Kd.R_alloc | apply Kd.R_drewN | apply Kd.R_drew)); exact Kd.R_mono (Kd.R_far (p := ⟨gb197, 0, none⟩) (Kd.R_types HO_8.out BK197.out (by decide)) (fun _ hk => hk.2) (.int .i64 t208)) (fun _ hk => trivial)⟩
             have n1_ : Aside0 ((wr.setCell ⟨gb197, 0, none⟩ (.int .i64 t208)).heap[gb180]? = some (.cells #[.int .i64 0, .int .i64 0, .int .i64 0, .int .i64 0, .int .i64 0, .int .i64 0, .int .i64 0] 24 (0, 0))) := ⟨by (with_reducible repeat (first | refine Bf ?_ _ | refine Bh ?_ | refine Bg ?_ _)); refine blk_far ?_ NB180_197.out _; (with_reducible repeat (first | refine Bf ?_ _ | refine Bh ?_ | refine Bg ?_ _)); exact BK180.out⟩
             have n2_ : Aside0 ((wr.setCell ⟨gb197, 0, none⟩ (.int .i64 t208)).heap[gb197]? = some (.cells #[.int .i64 t208, .int .i64 x198001_3, .int .i64 t199, .int .i64 0, .int .i64 0, .int .i64 0, .int .i64 0] 24 (0, 0))) := ⟨by (with_reducible repeat (first | refine Bf ?_ _ | refine Bh ?_ | refine Bg ?_ _)); refine blk_put (cs := #[.int .i64 0, .int .i64 x198001_3, .int .i64 t199, .int .i64 0, .int .i64 0, .int .i64 0, .int .i64 0]) ?_ 0 _ rfl; (with_reducible repeat (first | refine Bf ?_ _ | refine Bh ?_ | refine Bg ?_ _)); exact BK197.out⟩
             have n3_ : Aside0 (Below w.heap.size w (wr.setCell ⟨gb197, 0, none⟩ (.int .i64 t208))) := ⟨by repeat (first | (with_reducible first | exact HB.out | apply Be | apply Bc | apply Bd | refine below_set ?_ GE180.out | refine below_set ?_ GE197.out) | exact HB.out)⟩
             (try clear HO_8)
             (try clear BK180)
             (try clear BK197)
             (try clear HB)
             generalize (wr.setCell ⟨gb197, 0, none⟩ (.int .i64 t208)) = w63 at n0_ n1_ n2_ n3_ ⊢
             have HO_8 := n0_; have BK180 := n1_; have BK197 := n2_; have HB := n3_; clear n0_ n1_ n2_ n3_; have n0_ := Aside0.mk (Kd.R_drew HO_8.out); have n1_ := Aside0.mk (Bh BK180.out); have n2_ := Aside0.mk (Bh BK197.out); have n3_ := Aside0.mk (Bd HB.out); clear HO_8; clear BK180; clear BK197; clear HB; have HO_8 := n0_; have BK180 := n1_; have BK197 := n2_; have HB := n3_; clear n0_ n1_ n2_ n3_
             have p210 : 0 ≤ (3 : Int) := (by omega)
             have q210 : 3 < (x8_2.length : Int) := of_decide_eq_true (by first | (with_reducible assumption) | assumption)
             (try (obtain ⟨Ay_, cy_, ey_⟩ := Kd.R_slice HO_8.out; subst ey_))
             obtain ⟨ad210, e210, hx210_0⟩ := Kd.at_string (Kd.R_reads' HO_8.out).2.2 3 p210 q210
             obtain rfl : ad198 = ad210 := (by injection e210)
             (try simp only [show (3 : Int).toNat = 3 from rfl, Nat.reduceMul, Nat.reduceEqDiff, Go.Addr.add, ↓reduceIte] at hx210_0)
             have qi210 : (3 < x8_2.length) = True := eq_true (by omega)
             (try rw [show ((3 : Int)).toNat = 3 from rfl] at hx210_0)
             replace p210 := eq_true p210; replace q210 := eq_true q210
             refine start_ (n := 10) (S := fun w' => w'.cell? ⟨gb197, 0, none⟩ = some (.int .i64 t208) ∧ w'.cell? ⟨gb197, 1, none⟩ = some (.int .i64 x198001_3) ∧ w'.cell? ⟨gb197, 2, none⟩ = some (.int .i64 t199) ∧ w'.cell? ⟨gb197, 3, none⟩ = some (.int .i64 0) ∧ w'.cell? ⟨gb197, 4, none⟩ = some (.int .i64 0) ∧ w'.cell? ⟨gb197, 5, none⟩ = some (.int .i64 0) ∧ w'.cell? ⟨gb197, 6, none⟩ = some (.int .i64 0) ∧ w'.cell? ⟨ad198.block, ad198.off + 3, none⟩ = some (.string (rdOf ByteArray.empty x8_2 3))) (ds := [8]) #[X,X,X,X,X,X,X,X,X,X] (by kernel_rfl) rfl rfl ⟨(Ba BK197.out 0).trans rfl, (Ba BK197.out 1).trans rfl, (Ba BK197.out 2).trans rfl, (Ba BK197.out 3).trans rfl, (Ba BK197.out 4).trans rfl, (Ba BK197.out 5).trans rfl, (Ba BK197.out 6).trans rfl, hx210_0⟩ (fun hHeld => ?_); refine with_tabW spec_ParseDate.tab27 spec_ParseDate.bits27 (fun HT_ HW_ => ?_)
             generalize w63.drew = w64 at HO_8 BK180 BK197 HB hx210_0 hHeld ⊢
             refine pure_ (i := 0) (N := some 94) (v := ?_) (a' := ?_) (mb 10 1) rfl rfl (any_of HT_.out (by kernel_rfl)) (fun _ _ _ h => h) (Or.inl ⟨by rfl, ?_⟩) ?_ ?_
             rotate_left; (·intro w'; go_simp; (with_reducible rfl)); rotate_left; (·simp only [Act.put, sA, sZ, sS, i64_w, i32_w]; rfl)
             refine pure_ (i := 1) (N := some 95) (v := ?_) (a' := ?_) (mb 10 3) rfl rfl (any_of HT_.out (by kernel_rfl)) (fun _ _ _ h => h) (Or.inl ⟨by rfl, ?_⟩) ?_ ?_
             rotate_left; (·intro w'; go_simp; (with_reducible rfl)); rotate_left; (·simp only [Act.put, sA, sZ, sS, i64_w, i32_w]; rfl)
             refine take_ (i := 2) (N := some 96) (v := ?_) (a' := ?_) (mb 10 7) rfl rfl (take_ofW HT_.out HW_.out (by kernel_rfl)) (fun _ _ _ h => h) (Or.inl ⟨by rfl, ?_⟩) hHeld ?_ ?_
             rotate_left; (·rintro w' ⟨s0, s1, s2, s3, s4, s5, s6, s7⟩; go_simp; (with_reducible rfl)); rotate_left; (·simp only [Act.put, sA, sZ, sS, i64_w, i32_w]; rfl)
             refine take_ (i := 3) (N := some 97) (v := ?_) (a' := ?_) (mb 10 15) rfl rfl (take_ofW HT_.out HW_.out (by kernel_rfl)) (fun _ _ _ h => h) (Or.inl ⟨by rfl, ?_⟩) hHeld ?_ ?_
             rotate_left; (·rintro w' ⟨s0, s1, s2, s3, s4, s5, s6, s7⟩; go_simp; (with_reducible rfl)); rotate_left; (·simp only [Act.put, sA, sZ, sS, i64_w, i32_w]; rfl)
             refine one_ (i := 4) (N := some 98) (mb 10 31) rfl rfl (one_of HT_.out (by kernel_rfl)) (by decide) (fun K hK => ?_)
             refine goes_ Tryd.func46 (by kernel_rfl) rfl #[.string (rdOf ByteArray.empty x8_2 3), .agg #[.int .i64 t208, .int .i64 x198001_3, .int .i64 t199, .int .i64 0, .int .i64 0, .int .i64 0, .int .i64 0]] (by rfl) rfl rfl (by (try simp only [List.map_toArray, List.map_cons, List.map_nil]); first | done | rfl | (simp only [List.length_drop, List.length_take]; rfl)) ?_
             with_reducible refine (spec_l4Time.calls k3 (rdOf ByteArray.empty x8_2 3) t208 x198001_3 t199 0 0 0 0 t211 t212 t213 t214 t215 t216 t217 t218 _ A48.out).mono ?_
             rintro e w65 ⟨rfl, hb⟩
             have HS7_ := (hb.cell (World.block_lt_of_cell? _ _ (hHeld.2.2.2.2.2.2.2))).trans (hHeld.2.2.2.2.2.2.2)
             refine ⟨_, rfl, ?_⟩
             have n0_ := Aside0.mk (Kd.R_below (by (with_reducible repeat (first | apply Kd.R_alloc | apply Kd.R_drewN | apply Kd.R_drew)); exact HO_8.out) hb); have n1_ := Aside0.mk (blk_below (g := gb180) (o := .cells #[.int .i64 0, .int .i64 0, .int .i64 0, .int .i64 0, .int .i64 0, .int .i64 0, .int .i64 0] 24 (0, 0)) (by (with_reducible repeat (first | refine Bf ?_ _ | refine Bh ?_ | refine Bg ?_ _)); exact BK180.out) hb); have n2_ := Aside0.mk (blk_below (g := gb197) (o := .cells #[.int .i64 t208, .int .i64 x198001_3, .int .i64 t199, .int .i64 0, .int .i64 0, .int .i64 0, .int .i64 0] 24 (0, 0)) (by (with_reducible repeat (first | refine Bf ?_ _ | refine Bh ?_ | refine Bg ?_ _)); exact BK197.out) hb); have n3_ := Aside0.mk (below_step (by repeat (first | (with_reducible first | exact HB.out | apply Be | apply Bc | apply Bd | refine below_set ?_ GE180.out | refine below_set ?_ GE197.out) | exact HB.out)) hb); clear HO_8; clear BK180; clear BK197; clear HB; have HO_8 := n0_; have BK180 := n1_; have BK197 := n2_; have HB := n3_; clear n0_ n1_ n2_ n3_
             (try clear hb)
             (try clear hb2)
             (try clear hk)
             (try clear hi)
             refine hK.out _ _ ⟨(Ba BK197.out 0).trans rfl, (Ba BK197.out 1).trans rfl, (Ba BK197.out 2).trans rfl, (Ba BK197.out 3).trans rfl, (Ba BK197.out 4).trans rfl, (Ba BK197.out 5).trans rfl, (Ba BK197.out 6).trans rfl, HS7_⟩ (fun hHeld => ?_)
             clear hK K
             refine norm_ (a' := ?_) ?_ ?_
             rotate_left
             ·show Act.put _ (some 98) _ = _
              simp only [Act.put, sA, sZ, sS, i64_w, i32_w]
              rfl
             refine pure_ (i := 5) (N := some 93) (v := ?_) (a' := ?_) (mb 10 63) rfl rfl (any_of HT_.out (by kernel_rfl)) (fun _ _ _ h => h) (Or.inl ⟨by rfl, ?_⟩) ?_ ?_
             rotate_left; (·intro w'; go_simp; (with_reducible rfl)); rotate_left; (·simp only [Act.put, sA, sZ, sS, i64_w, i32_w]; rfl)
             refine pure_ (i := 6) (N := some 99) (v := ?_) (a' := ?_) (mb 10 127) rfl rfl (any_of HT_.out (by kernel_rfl)) (fun _ _ _ h => h) (Or.inl ⟨by rfl, ?_⟩) ?_ ?_
             rotate_left; (·intro w'; go_simp; (with_reducible rfl)); rotate_left; (·simp only [Act.put, sA, sZ, sS, i64_w, i32_w]; rfl)
             refine pure_ (i := 7) (N := some 100) (v := ?_) (a' := ?_) (mb 10 255) rfl rfl (any_of HT_.out (by kernel_rfl)) (fun _ _ _ h => h) (Or.inl ⟨by rfl, ?_⟩) ?_ ?_
             rotate_left; (·intro w'; go_simp; (with_reducible rfl)); rotate_left; (·simp only [Act.put, sA, sZ, sS, i64_w, i32_w]; rfl)
             refine last_ (i := 8) (N := none) (mb 10 511) rfl rfl (one_of HT_.out (by kernel_rfl)) (by decide) (fun K hK => ?_)
             have hs66 : w65.cell? ⟨gb197, 0, none⟩ = some (.int .i64 t208) := (Ba BK197.out 0).trans rfl
             have hfs66 := Bb BK197.out 0; have hns66_0 := NB180_197.out; have hms66_0 := NB197_180.out
             have hs67 : w65.cell? ⟨gb197, 1, none⟩ = some (.int .i64 x198001_3) := (Ba BK197.out 1).trans rfl
             have hfs67 := Bb BK197.out 1; have hns67_0 := NB180_197.out; have hms67_0 := NB197_180.out
             have hs68 : w65.cell? ⟨gb197, 2, none⟩ = some (.int .i64 t199) := (Ba BK197.out 2).trans rfl
             have hfs68 := Bb BK197.out 2; have hns68_0 := NB180_197.out; have hms68_0 := NB197_180.out
             have hs69 : w65.cell? ⟨gb197, 3, none⟩ = some (.int .i64 0) := (Ba BK197.out 3).trans rfl
             have hfs69 := Bb BK197.out 3; have hns69_0 := NB180_197.out; have hms69_0 := NB197_180.out
             have hs70 : w65.cell? ⟨gb197, 4, none⟩ = some (.int .i64 0) := (Ba BK197.out 4).trans rfl
             have hfs70 := Bb BK197.out 4; have hns70_0 := NB180_197.out; have hms70_0 := NB197_180.out
             have hs71 : w65.cell? ⟨gb197, 5, none⟩ = some (.int .i64 0) := (Ba BK197.out 5).trans rfl
             have hfs71 := Bb BK197.out 5; have hns71_0 := NB180_197.out; have hms71_0 := NB197_180.out
             have hs72 : w65.cell? ⟨gb197, 6, none⟩ = some (.int .i64 0) := (Ba BK197.out 6).trans rfl
             have hfs72 := Bb BK197.out 6; have hns72_0 := NB180_197.out; have hms72_0 := NB197_180.out
             refine skip_ (w1 := ?_) (by rfl) rfl ?_ ?_
             rotate_left
             ·go_simp
              rfl
             refine hK.out _ _ ?_
             clear hK K
             refine pure_ (i := 9) (N := some 17) (v := ?_) (a' := ?_) (mb 10 1023) rfl rfl (any_of HT_.out (by kernel_rfl)) (fun _ _ _ h => h) (Or.inl ⟨by rfl, ?_⟩) ?_ ?_
             rotate_left; (·intro w'; go_simp; (with_reducible rfl)); rotate_left; (·simp only [Act.put, sA, sZ, sS, i64_w, i32_w]; rfl)
             refine done_ (done_of HT_.out (by kernel_rfl)) ?_
             have p219 : 0 ≤ (4 : Int) := (by omega)
             have q219 : 4 < (x8_2.length : Int) := of_decide_eq_true (by first | (with_reducible assumption) | assumption)
             (try (obtain ⟨Ay_, cy_, ey_⟩ := Kd.R_slice HO_8.out; subst ey_))
             obtain ⟨ad219, e219, hx219_0⟩ := Kd.at_string (Kd.R_reads' HO_8.out).2.2 4 p219 q219
             obtain rfl : ad198 = ad219 := (by injection e219)
             (try simp only [show (4 : Int).toNat = 4 from rfl, Nat.reduceMul, Nat.reduceEqDiff, Go.Addr.add, ↓reduceIte] at hx219_0)
             have qi219 : (4 < x8_2.length) = True := eq_true (by omega)
             have hn219 : ad198.block ≠ gb197 := Kd.own_blk (Kd.R_ne HO_8.out BK197.out (by decide))
             replace p219 := eq_true p219; replace q219 := eq_true q219
             obtain ⟨W7, hW7, p7, q7, r7, s7⟩ := put7_ (v0 := .int .i64 t211) (v1 := .int .i64 t212) (v2 := .int .i64 t213) (v3 := .int .i64 t214) (v4 := .int .i64 t215) (v5 := .int .i64 t216) (v6 := .int .i64 t217) HB.out GE197.out BK197.out
             rw [← hW7]
             have x_ := Aside0.mk (r7 _ _ _ NB180_197.out BK180.out); have hy : W7.cell? ⟨ad198.block, ad198.off + 4, none⟩ = some (.string (rdOf ByteArray.empty x8_2 4)) := (s7 ⟨ad198.block, ad198.off + 4, none⟩ hn219).trans hx219_0
             clear HO_8 BK180 BK197 HB hW7 r7 s7 hx219_0; have BK180 := x_; have BK197 := Aside0.mk p7; have HB := Aside0.mk q7; clear x_ p7 q7
             have c6 : W7.cell? ⟨gb197, 6, none⟩ = some (.int .i64 t217) := (blk_cell BK197.out 6).trans rfl; have f6 := blk_frozen BK197.out 6
             go_upto_region 30 with (first | ((with_reducible refine gate_callee (f := 47) rfl ?_); refine goesL_ (some 105) rfl rfl Tryd.func47 (by kernel_rfl) rfl #[.string (rdOf ByteArray.empty x8_2 4)] rfl (by (try simp only [List.map_toArray, List.map_cons, List.map_nil]); first | done | rfl | (simp only [List.length_drop, List.length_take]; rfl)) ?_; (with_reducible refine (spec_l4Offset.calls k3 (rdOf ByteArray.empty x8_2 4) t220 t221 _ A50.out).mono ?_); rintro e w66 ⟨rfl, ⟨nd, rfl⟩⟩; refine ⟨_, rfl, ?_⟩))
             clear c6 f6 hy
             obtain ⟨W8, hW8, p8, q8, r8⟩ := put6_ (v := .int .i64 t220) (W := W7.drewN nd) (pw_below_drewN HB.out _) GE197.out (blk_drewN BK197.out _)
             rw [← hW8]
             have x_ := Aside0.mk (r8 _ _ _ NB180_197.out (blk_drewN BK180.out _)); clear BK180 BK197 HB hW8 r8; have BK180 := x_; have BK197 := Aside0.mk p8; have HB := Aside0.mk q8; clear x_ p8 q8
             cases t200 with
             | false =>
              have czW80 : W8.cell? ⟨gb180, 0, none⟩ = some (.int .i64 0) := (blk_cell BK180.out 0).trans rfl; have fzW80 := blk_frozen BK180.out 0; have czW81 : W8.cell? ⟨gb180, 1, none⟩ = some (.int .i64 0) := (blk_cell BK180.out 1).trans rfl; have fzW81 := blk_frozen BK180.out 1; have czW82 : W8.cell? ⟨gb180, 2, none⟩ = some (.int .i64 0) := (blk_cell BK180.out 2).trans rfl; have fzW82 := blk_frozen BK180.out 2; have czW83 : W8.cell? ⟨gb180, 3, none⟩ = some (.int .i64 0) := (blk_cell BK180.out 3).trans rfl; have fzW83 := blk_frozen BK180.out 3; have czW84 : W8.cell? ⟨gb180, 4, none⟩ = some (.int .i64 0) := (blk_cell BK180.out 4).trans rfl; have fzW84 := blk_frozen BK180.out 4; have czW85 : W8.cell? ⟨gb180, 5, none⟩ = some (.int .i64 0) := (blk_cell BK180.out 5).trans rfl; have fzW85 := blk_frozen BK180.out 5; have czW86 : W8.cell? ⟨gb180, 6, none⟩ = some (.int .i64 0) := (blk_cell BK180.out 6).trans rfl; have fzW86 := blk_frozen BK180.out 6
              have H := HH.out
              rw [if_neg Bool.false_ne_true] at H
              simp only [Option.some.injEq, Prod.mk.injEq] at H
              obtain ⟨rfl, rfl, rfl, rfl, rfl, rfl, rfl, rfl⟩ := H
              clear HH
              go_wp2
              refine bodyPost_ret (results_ct rfl _ _ gb180 24 #[.int .i64 0, .int .i64 0, .int .i64 0, .int .i64 0, .int .i64 0, .int .i64 0, .int .i64 0] (0, 0) _ rfl (seven_ (by (with_reducible repeat (first | refine blk_drewN ?_ _ | refine blk_drew ?_ | refine blk_alloc ?_ _)); exact BK180.out)) Tryd.underlying24 rfl (by kernel_rfl)) rfl ?_
              exact ⟨by first | rfl | (simp; done), below7_ (by repeat (first | (with_reducible first | exact HB.out | apply below_alloc | apply pw_below_drewN | apply below_drew1) | exact HB.out)) GE180.out⟩
             | true =>
              cases t209 with
              | false =>
               have czW80 : W8.cell? ⟨gb180, 0, none⟩ = some (.int .i64 0) := (blk_cell BK180.out 0).trans rfl; have fzW80 := blk_frozen BK180.out 0; have czW81 : W8.cell? ⟨gb180, 1, none⟩ = some (.int .i64 0) := (blk_cell BK180.out 1).trans rfl; have fzW81 := blk_frozen BK180.out 1; have czW82 : W8.cell? ⟨gb180, 2, none⟩ = some (.int .i64 0) := (blk_cell BK180.out 2).trans rfl; have fzW82 := blk_frozen BK180.out 2; have czW83 : W8.cell? ⟨gb180, 3, none⟩ = some (.int .i64 0) := (blk_cell BK180.out 3).trans rfl; have fzW83 := blk_frozen BK180.out 3; have czW84 : W8.cell? ⟨gb180, 4, none⟩ = some (.int .i64 0) := (blk_cell BK180.out 4).trans rfl; have fzW84 := blk_frozen BK180.out 4; have czW85 : W8.cell? ⟨gb180, 5, none⟩ = some (.int .i64 0) := (blk_cell BK180.out 5).trans rfl; have fzW85 := blk_frozen BK180.out 5; have czW86 : W8.cell? ⟨gb180, 6, none⟩ = some (.int .i64 0) := (blk_cell BK180.out 6).trans rfl; have fzW86 := blk_frozen BK180.out 6
               have H := HH.out
               rw [if_pos rfl] at H
               rw [if_neg Bool.false_ne_true] at H
               simp only [Option.some.injEq, Prod.mk.injEq] at H
               obtain ⟨rfl, rfl, rfl, rfl, rfl, rfl, rfl, rfl⟩ := H
               clear HH
               go_wp2
               refine bodyPost_ret (results_ct rfl _ _ gb180 24 #[.int .i64 0, .int .i64 0, .int .i64 0, .int .i64 0, .int .i64 0, .int .i64 0, .int .i64 0] (0, 0) _ rfl (seven_ (by (with_reducible repeat (first | refine blk_drewN ?_ _ | refine blk_drew ?_ | refine blk_alloc ?_ _)); exact BK180.out)) Tryd.underlying24 rfl (by kernel_rfl)) rfl ?_
               exact ⟨by first | rfl | (simp; done), below7_ (by repeat (first | (with_reducible first | exact HB.out | apply below_alloc | apply pw_below_drewN | apply below_drew1) | exact HB.out)) GE180.out⟩
              | true =>
               cases t218 with
               | false =>
                have czW80 : W8.cell? ⟨gb180, 0, none⟩ = some (.int .i64 0) := (blk_cell BK180.out 0).trans rfl; have fzW80 := blk_frozen BK180.out 0; have czW81 : W8.cell? ⟨gb180, 1, none⟩ = some (.int .i64 0) := (blk_cell BK180.out 1).trans rfl; have fzW81 := blk_frozen BK180.out 1; have czW82 : W8.cell? ⟨gb180, 2, none⟩ = some (.int .i64 0) := (blk_cell BK180.out 2).trans rfl; have fzW82 := blk_frozen BK180.out 2; have czW83 : W8.cell? ⟨gb180, 3, none⟩ = some (.int .i64 0) := (blk_cell BK180.out 3).trans rfl; have fzW83 := blk_frozen BK180.out 3; have czW84 : W8.cell? ⟨gb180, 4, none⟩ = some (.int .i64 0) := (blk_cell BK180.out 4).trans rfl; have fzW84 := blk_frozen BK180.out 4; have czW85 : W8.cell? ⟨gb180, 5, none⟩ = some (.int .i64 0) := (blk_cell BK180.out 5).trans rfl; have fzW85 := blk_frozen BK180.out 5; have czW86 : W8.cell? ⟨gb180, 6, none⟩ = some (.int .i64 0) := (blk_cell BK180.out 6).trans rfl; have fzW86 := blk_frozen BK180.out 6
                have H := HH.out
                rw [if_pos rfl] at H
                rw [if_pos rfl] at H
                rw [if_neg Bool.false_ne_true] at H
                simp only [Option.some.injEq, Prod.mk.injEq] at H
                obtain ⟨rfl, rfl, rfl, rfl, rfl, rfl, rfl, rfl⟩ := H
                clear HH
                go_wp2
                refine bodyPost_ret (results_ct rfl _ _ gb180 24 #[.int .i64 0, .int .i64 0, .int .i64 0, .int .i64 0, .int .i64 0, .int .i64 0, .int .i64 0] (0, 0) _ rfl (seven_ (by (with_reducible repeat (first | refine blk_drewN ?_ _ | refine blk_drew ?_ | refine blk_alloc ?_ _)); exact BK180.out)) Tryd.underlying24 rfl (by kernel_rfl)) rfl ?_
                exact ⟨by first | rfl | (simp; done), below7_ (by repeat (first | (with_reducible first | exact HB.out | apply below_alloc | apply pw_below_drewN | apply below_drew1) | exact HB.out)) GE180.out⟩
               | true =>
                cases t221 with
                | false =>
                 have czW80 : W8.cell? ⟨gb180, 0, none⟩ = some (.int .i64 0) := (blk_cell BK180.out 0).trans rfl; have fzW80 := blk_frozen BK180.out 0; have czW81 : W8.cell? ⟨gb180, 1, none⟩ = some (.int .i64 0) := (blk_cell BK180.out 1).trans rfl; have fzW81 := blk_frozen BK180.out 1; have czW82 : W8.cell? ⟨gb180, 2, none⟩ = some (.int .i64 0) := (blk_cell BK180.out 2).trans rfl; have fzW82 := blk_frozen BK180.out 2; have czW83 : W8.cell? ⟨gb180, 3, none⟩ = some (.int .i64 0) := (blk_cell BK180.out 3).trans rfl; have fzW83 := blk_frozen BK180.out 3; have czW84 : W8.cell? ⟨gb180, 4, none⟩ = some (.int .i64 0) := (blk_cell BK180.out 4).trans rfl; have fzW84 := blk_frozen BK180.out 4; have czW85 : W8.cell? ⟨gb180, 5, none⟩ = some (.int .i64 0) := (blk_cell BK180.out 5).trans rfl; have fzW85 := blk_frozen BK180.out 5; have czW86 : W8.cell? ⟨gb180, 6, none⟩ = some (.int .i64 0) := (blk_cell BK180.out 6).trans rfl; have fzW86 := blk_frozen BK180.out 6
                 have H := HH.out
                 rw [if_pos rfl] at H
                 rw [if_pos rfl] at H
                 rw [if_pos rfl] at H
                 rw [if_neg Bool.false_ne_true] at H
                 simp only [Option.some.injEq, Prod.mk.injEq] at H
                 obtain ⟨rfl, rfl, rfl, rfl, rfl, rfl, rfl, rfl⟩ := H
                 clear HH
                 go_wp2
                 refine bodyPost_ret (results_ct rfl _ _ gb180 24 #[.int .i64 0, .int .i64 0, .int .i64 0, .int .i64 0, .int .i64 0, .int .i64 0, .int .i64 0] (0, 0) _ rfl (seven_ (by (with_reducible repeat (first | refine blk_drewN ?_ _ | refine blk_drew ?_ | refine blk_alloc ?_ _)); exact BK180.out)) Tryd.underlying24 rfl (by kernel_rfl)) rfl ?_
                 exact ⟨by first | rfl | (simp; done), below7_ (by repeat (first | (with_reducible first | exact HB.out | apply below_alloc | apply pw_below_drewN | apply below_drew1) | exact HB.out)) GE180.out⟩
                | true =>
                 have G_ := HH.out; rw [if_pos rfl, if_pos rfl, if_pos rfl, if_pos rfl] at G_
                 obtain ⟨t222, A550, G_⟩ := Option.bind_eq_some_iff.mp G_
                 have A55 := Aside0.mk A550; clear A550 HH; have HH := Aside0.mk G_; clear G_
                 have cgW80 : W8.cell? ⟨gb197, 0, none⟩ = some (.int .i64 t211) := (blk_cell BK197.out 0).trans rfl; have fgW80 := blk_frozen BK197.out 0; have cgW81 : W8.cell? ⟨gb197, 1, none⟩ = some (.int .i64 t212) := (blk_cell BK197.out 1).trans rfl; have fgW81 := blk_frozen BK197.out 1; have cgW82 : W8.cell? ⟨gb197, 2, none⟩ = some (.int .i64 t213) := (blk_cell BK197.out 2).trans rfl; have fgW82 := blk_frozen BK197.out 2; have cgW83 : W8.cell? ⟨gb197, 3, none⟩ = some (.int .i64 t214) := (blk_cell BK197.out 3).trans rfl; have fgW83 := blk_frozen BK197.out 3; have cgW84 : W8.cell? ⟨gb197, 4, none⟩ = some (.int .i64 t215) := (blk_cell BK197.out 4).trans rfl; have fgW84 := blk_frozen BK197.out 4; have cgW85 : W8.cell? ⟨gb197, 5, none⟩ = some (.int .i64 t216) := (blk_cell BK197.out 5).trans rfl; have fgW85 := blk_frozen BK197.out 5; have cgW86 : W8.cell? ⟨gb197, 6, none⟩ = some (.int .i64 t220) := (blk_cell BK197.out 6).trans rfl; have fgW86 := blk_frozen BK197.out 6
                 cases t222 with
                 | false =>
                  have H := HH.out
                  rw [if_neg Bool.false_ne_true] at H
                  simp only [Option.some.injEq, Prod.mk.injEq] at H
                  obtain ⟨rfl, rfl, rfl, rfl, rfl, rfl, rfl, rfl⟩ := H
                  clear HH
                  go_wp2_with (first | (go_at_call 19; (with_reducible refine (spec_DateValid.calls k3 t211 t212 t213 t214 t215 t216 t220 false _ A55.out).mono ?_); rintro e w71 ⟨rfl, hb⟩; have n0_ := Aside0.mk (blk_below (g := gb180) (o := .cells #[.int .i64 0, .int .i64 0, .int .i64 0, .int .i64 0, .int .i64 0, .int .i64 0, .int .i64 0] 24 (0, 0)) (by (with_reducible repeat (first | refine blk_drewN ?_ _ | refine blk_drew ?_ | refine blk_alloc ?_ _)); exact BK180.out) hb); have n1_ := Aside0.mk (blk_below (g := gb197) (o := .cells #[.int .i64 t211, .int .i64 t212, .int .i64 t213, .int .i64 t214, .int .i64 t215, .int .i64 t216, .int .i64 t220] 24 (0, 0)) (by (with_reducible repeat (first | refine blk_drewN ?_ _ | refine blk_drew ?_ | refine blk_alloc ?_ _)); exact BK197.out) hb); have nb_ := Aside0.mk (below_step (by repeat (first | (with_reducible first | exact HB.out | apply below_alloc | apply pw_below_drewN | apply below_drew1) | exact HB.out)) hb); clear hb HB BK180 BK197; have BK180 := n0_; clear n0_; have BK197 := n1_; clear n1_; have HB := nb_; clear nb_; clear cgW80 fgW80 cgW81 fgW81 cgW82 fgW82 cgW83 fgW83 cgW84 fgW84 cgW85 fgW85 cgW86 fgW86; have czw710 : w71.cell? ⟨gb180, 0, none⟩ = some (.int .i64 0) := (blk_cell BK180.out 0).trans rfl; have fzw710 := blk_frozen BK180.out 0; have czw711 : w71.cell? ⟨gb180, 1, none⟩ = some (.int .i64 0) := (blk_cell BK180.out 1).trans rfl; have fzw711 := blk_frozen BK180.out 1; have czw712 : w71.cell? ⟨gb180, 2, none⟩ = some (.int .i64 0) := (blk_cell BK180.out 2).trans rfl; have fzw712 := blk_frozen BK180.out 2; have czw713 : w71.cell? ⟨gb180, 3, none⟩ = some (.int .i64 0) := (blk_cell BK180.out 3).trans rfl; have fzw713 := blk_frozen BK180.out 3; have czw714 : w71.cell? ⟨gb180, 4, none⟩ = some (.int .i64 0) := (blk_cell BK180.out 4).trans rfl; have fzw714 := blk_frozen BK180.out 4; have czw715 : w71.cell? ⟨gb180, 5, none⟩ = some (.int .i64 0) := (blk_cell BK180.out 5).trans rfl; have fzw715 := blk_frozen BK180.out 5; have czw716 : w71.cell? ⟨gb180, 6, none⟩ = some (.int .i64 0) := (blk_cell BK180.out 6).trans rfl; have fzw716 := blk_frozen BK180.out 6))
                  refine bodyPost_ret (results_ct rfl _ _ gb180 24 #[.int .i64 0, .int .i64 0, .int .i64 0, .int .i64 0, .int .i64 0, .int .i64 0, .int .i64 0] (0, 0) _ rfl (seven_ (by (with_reducible repeat (first | refine blk_drewN ?_ _ | refine blk_drew ?_ | refine blk_alloc ?_ _)); exact BK180.out)) Tryd.underlying24 rfl (by kernel_rfl)) rfl ?_
                  exact ⟨by first | rfl | (simp; done), below7_ (by repeat (first | (with_reducible first | exact HB.out | apply below_alloc | apply pw_below_drewN | apply below_drew1) | exact HB.out)) GE180.out⟩
                 | true =>
                  cases t184 with
                  | false =>
                   have H := HH.out
                   rw [if_pos rfl] at H
                   rw [if_neg Bool.false_ne_true] at H
                   simp only [Option.some.injEq, Prod.mk.injEq] at H
                   obtain ⟨rfl, rfl, rfl, rfl, rfl, rfl, rfl, rfl⟩ := H
                   clear HH
                   go_wp2_with (first | (go_at_call 19; (with_reducible refine (spec_DateValid.calls k3 t211 t212 t213 t214 t215 t216 t220 true _ A55.out).mono ?_); rintro e w71 ⟨rfl, hb⟩; have n0_ := Aside0.mk (blk_below (g := gb180) (o := .cells #[.int .i64 0, .int .i64 0, .int .i64 0, .int .i64 0, .int .i64 0, .int .i64 0, .int .i64 0] 24 (0, 0)) (by (with_reducible repeat (first | refine blk_drewN ?_ _ | refine blk_drew ?_ | refine blk_alloc ?_ _)); exact BK180.out) hb); have n1_ := Aside0.mk (blk_below (g := gb197) (o := .cells #[.int .i64 t211, .int .i64 t212, .int .i64 t213, .int .i64 t214, .int .i64 t215, .int .i64 t216, .int .i64 t220] 24 (0, 0)) (by (with_reducible repeat (first | refine blk_drewN ?_ _ | refine blk_drew ?_ | refine blk_alloc ?_ _)); exact BK197.out) hb); have nb_ := Aside0.mk (below_step (by repeat (first | (with_reducible first | exact HB.out | apply below_alloc | apply pw_below_drewN | apply below_drew1) | exact HB.out)) hb); clear hb HB BK180 BK197; have BK180 := n0_; clear n0_; have BK197 := n1_; clear n1_; have HB := nb_; clear nb_; clear cgW80 fgW80 cgW81 fgW81 cgW82 fgW82 cgW83 fgW83 cgW84 fgW84 cgW85 fgW85 cgW86 fgW86; have cgw710 : w71.cell? ⟨gb197, 0, none⟩ = some (.int .i64 t211) := (blk_cell BK197.out 0).trans rfl; have fgw710 := blk_frozen BK197.out 0; have cgw711 : w71.cell? ⟨gb197, 1, none⟩ = some (.int .i64 t212) := (blk_cell BK197.out 1).trans rfl; have fgw711 := blk_frozen BK197.out 1; have cgw712 : w71.cell? ⟨gb197, 2, none⟩ = some (.int .i64 t213) := (blk_cell BK197.out 2).trans rfl; have fgw712 := blk_frozen BK197.out 2; have cgw713 : w71.cell? ⟨gb197, 3, none⟩ = some (.int .i64 t214) := (blk_cell BK197.out 3).trans rfl; have fgw713 := blk_frozen BK197.out 3; have cgw714 : w71.cell? ⟨gb197, 4, none⟩ = some (.int .i64 t215) := (blk_cell BK197.out 4).trans rfl; have fgw714 := blk_frozen BK197.out 4; have cgw715 : w71.cell? ⟨gb197, 5, none⟩ = some (.int .i64 t216) := (blk_cell BK197.out 5).trans rfl; have fgw715 := blk_frozen BK197.out 5; have cgw716 : w71.cell? ⟨gb197, 6, none⟩ = some (.int .i64 t220) := (blk_cell BK197.out 6).trans rfl; have fgw716 := blk_frozen BK197.out 6; have czw710 : w71.cell? ⟨gb180, 0, none⟩ = some (.int .i64 0) := (blk_cell BK180.out 0).trans rfl; have fzw710 := blk_frozen BK180.out 0; have czw711 : w71.cell? ⟨gb180, 1, none⟩ = some (.int .i64 0) := (blk_cell BK180.out 1).trans rfl; have fzw711 := blk_frozen BK180.out 1; have czw712 : w71.cell? ⟨gb180, 2, none⟩ = some (.int .i64 0) := (blk_cell BK180.out 2).trans rfl; have fzw712 := blk_frozen BK180.out 2; have czw713 : w71.cell? ⟨gb180, 3, none⟩ = some (.int .i64 0) := (blk_cell BK180.out 3).trans rfl; have fzw713 := blk_frozen BK180.out 3; have czw714 : w71.cell? ⟨gb180, 4, none⟩ = some (.int .i64 0) := (blk_cell BK180.out 4).trans rfl; have fzw714 := blk_frozen BK180.out 4; have czw715 : w71.cell? ⟨gb180, 5, none⟩ = some (.int .i64 0) := (blk_cell BK180.out 5).trans rfl; have fzw715 := blk_frozen BK180.out 5; have czw716 : w71.cell? ⟨gb180, 6, none⟩ = some (.int .i64 0) := (blk_cell BK180.out 6).trans rfl; have fzw716 := blk_frozen BK180.out 6))
                   refine bodyPost_ret (results_ct rfl _ _ gb180 24 #[.int .i64 t211, .int .i64 t212, .int .i64 t213, .int .i64 t214, .int .i64 t215, .int .i64 t216, .int .i64 t220] (0, 0) _ rfl (seven_ (by (with_reducible repeat (first | refine blk_drewN ?_ _ | refine blk_drew ?_ | refine blk_alloc ?_ _)); exact BK180.out)) Tryd.underlying24 rfl (by kernel_rfl)) rfl ?_
                   exact ⟨by first | rfl | (simp; done), below7_ (by repeat (first | (with_reducible first | exact HB.out | apply below_alloc | apply pw_below_drewN | apply below_drew1) | exact HB.out)) GE180.out⟩
                  | true =>
                   have G_ := HH.out; rw [if_pos rfl, if_pos rfl] at G_
                   obtain ⟨t223, A580, G_⟩ := Option.bind_eq_some_iff.mp G_
                   obtain ⟨t224, A590, G_⟩ := Option.bind_eq_some_iff.mp G_
                   have A58 := Aside0.mk A580; have A59 := Aside0.mk A590; clear A580 A590 HH; have HH := Aside0.mk G_; clear G_
                   cases t224 with
                   | false =>
                    have H := HH.out
                    rw [if_neg Bool.false_ne_true] at H
                    simp only [Option.some.injEq, Prod.mk.injEq] at H
                    obtain ⟨rfl, rfl, rfl, rfl, rfl, rfl, rfl, rfl⟩ := H
                    clear HH
                    go_wp2_with (first | (go_at_call 19; (with_reducible refine (spec_DateValid.calls k3 t211 t212 t213 t214 t215 t216 t220 true _ A55.out).mono ?_); rintro e w71 ⟨rfl, hb⟩; have n0_ := Aside0.mk (blk_below (g := gb180) (o := .cells #[.int .i64 0, .int .i64 0, .int .i64 0, .int .i64 0, .int .i64 0, .int .i64 0, .int .i64 0] 24 (0, 0)) (by (with_reducible repeat (first | refine blk_drewN ?_ _ | refine blk_drew ?_ | refine blk_alloc ?_ _)); exact BK180.out) hb); have n1_ := Aside0.mk (blk_below (g := gb197) (o := .cells #[.int .i64 t211, .int .i64 t212, .int .i64 t213, .int .i64 t214, .int .i64 t215, .int .i64 t216, .int .i64 t220] 24 (0, 0)) (by (with_reducible repeat (first | refine blk_drewN ?_ _ | refine blk_drew ?_ | refine blk_alloc ?_ _)); exact BK197.out) hb); have nb_ := Aside0.mk (below_step (by repeat (first | (with_reducible first | exact HB.out | apply below_alloc | apply pw_below_drewN | apply below_drew1) | exact HB.out)) hb); clear hb HB BK180 BK197; have BK180 := n0_; clear n0_; have BK197 := n1_; clear n1_; have HB := nb_; clear nb_; clear cgW80 fgW80 cgW81 fgW81 cgW82 fgW82 cgW83 fgW83 cgW84 fgW84 cgW85 fgW85 cgW86 fgW86; have cgw710 : w71.cell? ⟨gb197, 0, none⟩ = some (.int .i64 t211) := (blk_cell BK197.out 0).trans rfl; have fgw710 := blk_frozen BK197.out 0; have cgw711 : w71.cell? ⟨gb197, 1, none⟩ = some (.int .i64 t212) := (blk_cell BK197.out 1).trans rfl; have fgw711 := blk_frozen BK197.out 1; have cgw712 : w71.cell? ⟨gb197, 2, none⟩ = some (.int .i64 t213) := (blk_cell BK197.out 2).trans rfl; have fgw712 := blk_frozen BK197.out 2; have cgw713 : w71.cell? ⟨gb197, 3, none⟩ = some (.int .i64 t214) := (blk_cell BK197.out 3).trans rfl; have fgw713 := blk_frozen BK197.out 3; have cgw714 : w71.cell? ⟨gb197, 4, none⟩ = some (.int .i64 t215) := (blk_cell BK197.out 4).trans rfl; have fgw714 := blk_frozen BK197.out 4; have cgw715 : w71.cell? ⟨gb197, 5, none⟩ = some (.int .i64 t216) := (blk_cell BK197.out 5).trans rfl; have fgw715 := blk_frozen BK197.out 5; have cgw716 : w71.cell? ⟨gb197, 6, none⟩ = some (.int .i64 t220) := (blk_cell BK197.out 6).trans rfl; have fgw716 := blk_frozen BK197.out 6) | (go_at_call 23; (with_reducible refine (spec_WeekdayOf.calls k3 t211 t212 t213 t214 t215 t216 t220 t223 _ A58.out).mono ?_); rintro e w72 ⟨rfl, hb⟩; have n0_ := Aside0.mk (blk_below (g := gb180) (o := .cells #[.int .i64 0, .int .i64 0, .int .i64 0, .int .i64 0, .int .i64 0, .int .i64 0, .int .i64 0] 24 (0, 0)) (by (with_reducible repeat (first | refine blk_drewN ?_ _ | refine blk_drew ?_ | refine blk_alloc ?_ _)); exact BK180.out) hb); have n1_ := Aside0.mk (blk_below (g := gb197) (o := .cells #[.int .i64 t211, .int .i64 t212, .int .i64 t213, .int .i64 t214, .int .i64 t215, .int .i64 t216, .int .i64 t220] 24 (0, 0)) (by (with_reducible repeat (first | refine blk_drewN ?_ _ | refine blk_drew ?_ | refine blk_alloc ?_ _)); exact BK197.out) hb); have nb_ := Aside0.mk (below_step (by repeat (first | (with_reducible first | exact HB.out | apply below_alloc | apply pw_below_drewN | apply below_drew1) | exact HB.out)) hb); clear hb HB BK180 BK197; have BK180 := n0_; clear n0_; have BK197 := n1_; clear n1_; have HB := nb_; clear nb_; clear cgw710 fgw710 cgw711 fgw711 cgw712 fgw712 cgw713 fgw713 cgw714 fgw714 cgw715 fgw715 cgw716 fgw716) | (go_at_call 45; (with_reducible refine (spec_SameText.calls x4_4 t223 false _ A59.out).mono ?_); rintro e w73 ⟨rfl, hb⟩; have n0_ := Aside0.mk (blk_below (g := gb180) (o := .cells #[.int .i64 0, .int .i64 0, .int .i64 0, .int .i64 0, .int .i64 0, .int .i64 0, .int .i64 0] 24 (0, 0)) (by (with_reducible repeat (first | refine blk_drewN ?_ _ | refine blk_drew ?_ | refine blk_alloc ?_ _)); exact BK180.out) hb); have n1_ := Aside0.mk (blk_below (g := gb197) (o := .cells #[.int .i64 t211, .int .i64 t212, .int .i64 t213, .int .i64 t214, .int .i64 t215, .int .i64 t216, .int .i64 t220] 24 (0, 0)) (by (with_reducible repeat (first | refine blk_drewN ?_ _ | refine blk_drew ?_ | refine blk_alloc ?_ _)); exact BK197.out) hb); have nb_ := Aside0.mk (below_step (by repeat (first | (with_reducible first | exact HB.out | apply below_alloc | apply pw_below_drewN | apply below_drew1) | exact HB.out)) hb); clear hb HB BK180 BK197; have BK180 := n0_; clear n0_; have BK197 := n1_; clear n1_; have HB := nb_; clear nb_; have czw730 : w73.cell? ⟨gb180, 0, none⟩ = some (.int .i64 0) := (blk_cell BK180.out 0).trans rfl; have fzw730 := blk_frozen BK180.out 0; have czw731 : w73.cell? ⟨gb180, 1, none⟩ = some (.int .i64 0) := (blk_cell BK180.out 1).trans rfl; have fzw731 := blk_frozen BK180.out 1; have czw732 : w73.cell? ⟨gb180, 2, none⟩ = some (.int .i64 0) := (blk_cell BK180.out 2).trans rfl; have fzw732 := blk_frozen BK180.out 2; have czw733 : w73.cell? ⟨gb180, 3, none⟩ = some (.int .i64 0) := (blk_cell BK180.out 3).trans rfl; have fzw733 := blk_frozen BK180.out 3; have czw734 : w73.cell? ⟨gb180, 4, none⟩ = some (.int .i64 0) := (blk_cell BK180.out 4).trans rfl; have fzw734 := blk_frozen BK180.out 4; have czw735 : w73.cell? ⟨gb180, 5, none⟩ = some (.int .i64 0) := (blk_cell BK180.out 5).trans rfl; have fzw735 := blk_frozen BK180.out 5; have czw736 : w73.cell? ⟨gb180, 6, none⟩ = some (.int .i64 0) := (blk_cell BK180.out 6).trans rfl; have fzw736 := blk_frozen BK180.out 6))
                    refine bodyPost_ret (results_ct rfl _ _ gb180 24 #[.int .i64 0, .int .i64 0, .int .i64 0, .int .i64 0, .int .i64 0, .int .i64 0, .int .i64 0] (0, 0) _ rfl (seven_ (by (with_reducible repeat (first | refine blk_drewN ?_ _ | refine blk_drew ?_ | refine blk_alloc ?_ _)); exact BK180.out)) Tryd.underlying24 rfl (by kernel_rfl)) rfl ?_
                    exact ⟨by first | rfl | (simp; done), below7_ (by repeat (first | (with_reducible first | exact HB.out | apply below_alloc | apply pw_below_drewN | apply below_drew1) | exact HB.out)) GE180.out⟩
                   | true =>
                    have H := HH.out
                    rw [if_pos rfl] at H
                    simp only [Option.some.injEq, Prod.mk.injEq] at H
                    obtain ⟨rfl, rfl, rfl, rfl, rfl, rfl, rfl, rfl⟩ := H
                    clear HH
                    go_wp2_with (first | (go_at_call 19; (with_reducible refine (spec_DateValid.calls k3 t211 t212 t213 t214 t215 t216 t220 true _ A55.out).mono ?_); rintro e w71 ⟨rfl, hb⟩; have n0_ := Aside0.mk (blk_below (g := gb180) (o := .cells #[.int .i64 0, .int .i64 0, .int .i64 0, .int .i64 0, .int .i64 0, .int .i64 0, .int .i64 0] 24 (0, 0)) (by (with_reducible repeat (first | refine blk_drewN ?_ _ | refine blk_drew ?_ | refine blk_alloc ?_ _)); exact BK180.out) hb); have n1_ := Aside0.mk (blk_below (g := gb197) (o := .cells #[.int .i64 t211, .int .i64 t212, .int .i64 t213, .int .i64 t214, .int .i64 t215, .int .i64 t216, .int .i64 t220] 24 (0, 0)) (by (with_reducible repeat (first | refine blk_drewN ?_ _ | refine blk_drew ?_ | refine blk_alloc ?_ _)); exact BK197.out) hb); have nb_ := Aside0.mk (below_step (by repeat (first | (with_reducible first | exact HB.out | apply below_alloc | apply pw_below_drewN | apply below_drew1) | exact HB.out)) hb); clear hb HB BK180 BK197; have BK180 := n0_; clear n0_; have BK197 := n1_; clear n1_; have HB := nb_; clear nb_; clear cgW80 fgW80 cgW81 fgW81 cgW82 fgW82 cgW83 fgW83 cgW84 fgW84 cgW85 fgW85 cgW86 fgW86; have cgw710 : w71.cell? ⟨gb197, 0, none⟩ = some (.int .i64 t211) := (blk_cell BK197.out 0).trans rfl; have fgw710 := blk_frozen BK197.out 0; have cgw711 : w71.cell? ⟨gb197, 1, none⟩ = some (.int .i64 t212) := (blk_cell BK197.out 1).trans rfl; have fgw711 := blk_frozen BK197.out 1; have cgw712 : w71.cell? ⟨gb197, 2, none⟩ = some (.int .i64 t213) := (blk_cell BK197.out 2).trans rfl; have fgw712 := blk_frozen BK197.out 2; have cgw713 : w71.cell? ⟨gb197, 3, none⟩ = some (.int .i64 t214) := (blk_cell BK197.out 3).trans rfl; have fgw713 := blk_frozen BK197.out 3; have cgw714 : w71.cell? ⟨gb197, 4, none⟩ = some (.int .i64 t215) := (blk_cell BK197.out 4).trans rfl; have fgw714 := blk_frozen BK197.out 4; have cgw715 : w71.cell? ⟨gb197, 5, none⟩ = some (.int .i64 t216) := (blk_cell BK197.out 5).trans rfl; have fgw715 := blk_frozen BK197.out 5; have cgw716 : w71.cell? ⟨gb197, 6, none⟩ = some (.int .i64 t220) := (blk_cell BK197.out 6).trans rfl; have fgw716 := blk_frozen BK197.out 6) | (go_at_call 23; (with_reducible refine (spec_WeekdayOf.calls k3 t211 t212 t213 t214 t215 t216 t220 t223 _ A58.out).mono ?_); rintro e w72 ⟨rfl, hb⟩; have n0_ := Aside0.mk (blk_below (g := gb180) (o := .cells #[.int .i64 0, .int .i64 0, .int .i64 0, .int .i64 0, .int .i64 0, .int .i64 0, .int .i64 0] 24 (0, 0)) (by (with_reducible repeat (first | refine blk_drewN ?_ _ | refine blk_drew ?_ | refine blk_alloc ?_ _)); exact BK180.out) hb); have n1_ := Aside0.mk (blk_below (g := gb197) (o := .cells #[.int .i64 t211, .int .i64 t212, .int .i64 t213, .int .i64 t214, .int .i64 t215, .int .i64 t216, .int .i64 t220] 24 (0, 0)) (by (with_reducible repeat (first | refine blk_drewN ?_ _ | refine blk_drew ?_ | refine blk_alloc ?_ _)); exact BK197.out) hb); have nb_ := Aside0.mk (below_step (by repeat (first | (with_reducible first | exact HB.out | apply below_alloc | apply pw_below_drewN | apply below_drew1) | exact HB.out)) hb); clear hb HB BK180 BK197; have BK180 := n0_; clear n0_; have BK197 := n1_; clear n1_; have HB := nb_; clear nb_; clear cgw710 fgw710 cgw711 fgw711 cgw712 fgw712 cgw713 fgw713 cgw714 fgw714 cgw715 fgw715 cgw716 fgw716) | (go_at_call 45; (with_reducible refine (spec_SameText.calls x4_4 t223 true _ A59.out).mono ?_); rintro e w73 ⟨rfl, hb⟩; have n0_ := Aside0.mk (blk_below (g := gb180) (o := .cells #[.int .i64 0, .int .i64 0, .int .i64 0, .int .i64 0, .int .i64 0, .int .i64 0, .int .i64 0] 24 (0, 0)) (by (with_reducible repeat (first | refine blk_drewN ?_ _ | refine blk_drew ?_ | refine blk_alloc ?_ _)); exact BK180.out) hb); have n1_ := Aside0.mk (blk_below (g := gb197) (o := .cells #[.int .i64 t211, .int .i64 t212, .int .i64 t213, .int .i64 t214, .int .i64 t215, .int .i64 t216, .int .i64 t220] 24 (0, 0)) (by (with_reducible repeat (first | refine blk_drewN ?_ _ | refine blk_drew ?_ | refine blk_alloc ?_ _)); exact BK197.out) hb); have nb_ := Aside0.mk (below_step (by repeat (first | (with_reducible first | exact HB.out | apply below_alloc | apply pw_below_drewN | apply below_drew1) | exact HB.out)) hb); clear hb HB BK180 BK197; have BK180 := n0_; clear n0_; have BK197 := n1_; clear n1_; have HB := nb_; clear nb_; have cgw730 : w73.cell? ⟨gb197, 0, none⟩ = some (.int .i64 t211) := (blk_cell BK197.out 0).trans rfl; have fgw730 := blk_frozen BK197.out 0; have cgw731 : w73.cell? ⟨gb197, 1, none⟩ = some (.int .i64 t212) := (blk_cell BK197.out 1).trans rfl; have fgw731 := blk_frozen BK197.out 1; have cgw732 : w73.cell? ⟨gb197, 2, none⟩ = some (.int .i64 t213) := (blk_cell BK197.out 2).trans rfl; have fgw732 := blk_frozen BK197.out 2; have cgw733 : w73.cell? ⟨gb197, 3, none⟩ = some (.int .i64 t214) := (blk_cell BK197.out 3).trans rfl; have fgw733 := blk_frozen BK197.out 3; have cgw734 : w73.cell? ⟨gb197, 4, none⟩ = some (.int .i64 t215) := (blk_cell BK197.out 4).trans rfl; have fgw734 := blk_frozen BK197.out 4; have cgw735 : w73.cell? ⟨gb197, 5, none⟩ = some (.int .i64 t216) := (blk_cell BK197.out 5).trans rfl; have fgw735 := blk_frozen BK197.out 5; have cgw736 : w73.cell? ⟨gb197, 6, none⟩ = some (.int .i64 t220) := (blk_cell BK197.out 6).trans rfl; have fgw736 := blk_frozen BK197.out 6; have czw730 : w73.cell? ⟨gb180, 0, none⟩ = some (.int .i64 0) := (blk_cell BK180.out 0).trans rfl; have fzw730 := blk_frozen BK180.out 0; have czw731 : w73.cell? ⟨gb180, 1, none⟩ = some (.int .i64 0) := (blk_cell BK180.out 1).trans rfl; have fzw731 := blk_frozen BK180.out 1; have czw732 : w73.cell? ⟨gb180, 2, none⟩ = some (.int .i64 0) := (blk_cell BK180.out 2).trans rfl; have fzw732 := blk_frozen BK180.out 2; have czw733 : w73.cell? ⟨gb180, 3, none⟩ = some (.int .i64 0) := (blk_cell BK180.out 3).trans rfl; have fzw733 := blk_frozen BK180.out 3; have czw734 : w73.cell? ⟨gb180, 4, none⟩ = some (.int .i64 0) := (blk_cell BK180.out 4).trans rfl; have fzw734 := blk_frozen BK180.out 4; have czw735 : w73.cell? ⟨gb180, 5, none⟩ = some (.int .i64 0) := (blk_cell BK180.out 5).trans rfl; have fzw735 := blk_frozen BK180.out 5; have czw736 : w73.cell? ⟨gb180, 6, none⟩ = some (.int .i64 0) := (blk_cell BK180.out 6).trans rfl; have fzw736 := blk_frozen BK180.out 6))
                    refine bodyPost_ret (results_ct rfl _ _ gb180 24 #[.int .i64 t211, .int .i64 t212, .int .i64 t213, .int .i64 t214, .int .i64 t215, .int .i64 t216, .int .i64 t220] (0, 0) _ rfl (seven_ (by (with_reducible repeat (first | refine blk_drewN ?_ _ | refine blk_drew ?_ | refine blk_alloc ?_ _)); exact BK180.out)) Tryd.underlying24 rfl (by kernel_rfl)) rfl ?_
                    exact ⟨by first | rfl | (simp; done), below7_ (by repeat (first | (with_reducible first | exact HB.out | apply below_alloc | apply pw_below_drewN | apply below_drew1) | exact HB.out)) GE180.out⟩
            rw [if_neg c49] at H
            exact absurd H (by simp)
           rw [if_neg c47] at H
           exact absurd H (by simp)
          rw [if_neg c45] at H
          exact absurd H (by simp)
       rw [if_neg c21] at H
       exact absurd H (by simp)
      rw [if_neg c20] at H
      have c20b0 : ((x8_2.length : Int) == 5) = false := beq_eq_false_iff_ne.mpr c20
      have c20b1 : ((x8_2.length : Int) != 5) = true := bne_iff_ne.mpr c20
      simp only [Option.some.injEq, Prod.mk.injEq] at H
      obtain ⟨rfl, rfl, rfl, rfl, rfl, rfl, rfl, rfl⟩ := H
      obtain ⟨Ao185, co185, eo185⟩ := Kd.R_slice HO_9.out
      subst eo185
      obtain ⟨Ao186, co186, eo186⟩ := Kd.R_slice HO_8.out
      subst eo186
      have hcz187_0 : wr.cell? ⟨gb180, 0, none⟩ = some (.int .i64 0) := (Ba BK180.out 0).trans rfl
      have hcz187_1 : wr.cell? ⟨gb180, 1, none⟩ = some (.int .i64 0) := (Ba BK180.out 1).trans rfl
      have hcz187_2 : wr.cell? ⟨gb180, 2, none⟩ = some (.int .i64 0) := (Ba BK180.out 2).trans rfl
      have hcz187_3 : wr.cell? ⟨gb180, 3, none⟩ = some (.int .i64 0) := (Ba BK180.out 3).trans rfl
      have hcz187_4 : wr.cell? ⟨gb180, 4, none⟩ = some (.int .i64 0) := (Ba BK180.out 4).trans rfl
      have hcz187_5 : wr.cell? ⟨gb180, 5, none⟩ = some (.int .i64 0) := (Ba BK180.out 5).trans rfl
      have hcz187_6 : wr.cell? ⟨gb180, 6, none⟩ = some (.int .i64 0) := (Ba BK180.out 6).trans rfl
      have hfz187_0 := Bb BK180.out 0; have hfz187_1 := Bb BK180.out 1; have hfz187_2 := Bb BK180.out 2; have hfz187_3 := Bb BK180.out 3; have hfz187_4 := Bb BK180.out 4; have hfz187_5 := Bb BK180.out 5; have hfz187_6 := Bb BK180.out 6
      go_wp2
      refine bodyPost_ret (results_ct rfl _ _ gb180 24 #[.int .i64 0, .int .i64 0, .int .i64 0, .int .i64 0, .int .i64 0, .int .i64 0, .int .i64 0] (0, 0) _ rfl (by (with_reducible repeat (first | refine Bf ?_ _ | refine Bh ?_ | refine Bg ?_ _)); refine blk_put (cs := #[.int .i64 0, .int .i64 0, .int .i64 0, .int .i64 0, .int .i64 0, .int .i64 0, .int .i64 0]) ?_ 6 _ rfl; (with_reducible repeat (first | refine Bf ?_ _ | refine Bh ?_ | refine Bg ?_ _)); refine blk_put (cs := #[.int .i64 0, .int .i64 0, .int .i64 0, .int .i64 0, .int .i64 0, .int .i64 0, .int .i64 0]) ?_ 5 _ rfl; (with_reducible repeat (first | refine Bf ?_ _ | refine Bh ?_ | refine Bg ?_ _)); refine blk_put (cs := #[.int .i64 0, .int .i64 0, .int .i64 0, .int .i64 0, .int .i64 0, .int .i64 0, .int .i64 0]) ?_ 4 _ rfl; (with_reducible repeat (first | refine Bf ?_ _ | refine Bh ?_ | refine Bg ?_ _)); refine blk_put (cs := #[.int .i64 0, .int .i64 0, .int .i64 0, .int .i64 0, .int .i64 0, .int .i64 0, .int .i64 0]) ?_ 3 _ rfl; (with_reducible repeat (first | refine Bf ?_ _ | refine Bh ?_ | refine Bg ?_ _)); refine blk_put (cs := #[.int .i64 0, .int .i64 0, .int .i64 0, .int .i64 0, .int .i64 0, .int .i64 0, .int .i64 0]) ?_ 2 _ rfl; (with_reducible repeat (first | refine Bf ?_ _ | refine Bh ?_ | refine Bg ?_ _)); refine blk_put (cs := #[.int .i64 0, .int .i64 0, .int .i64 0, .int .i64 0, .int .i64 0, .int .i64 0, .int .i64 0]) ?_ 1 _ rfl; (with_reducible repeat (first | refine Bf ?_ _ | refine Bh ?_ | refine Bg ?_ _)); refine blk_put (cs := #[.int .i64 0, .int .i64 0, .int .i64 0, .int .i64 0, .int .i64 0, .int .i64 0, .int .i64 0]) ?_ 0 _ rfl; (with_reducible repeat (first | refine Bf ?_ _ | refine Bh ?_ | refine Bg ?_ _)); exact BK180.out) Tryd.underlying24 rfl (by kernel_rfl)) rfl ?_
      exact ⟨by first | rfl | (simp [errW_none, errW_some] <;> rfl) | (simp [*, errW_none, errW_some] <;> rfl), by repeat (first | (with_reducible first | exact HB.out | apply Be | apply Bc | apply Bd | refine below_set ?_ GE180.out) | exact HB.out)⟩
 replace c3 := Bool.eq_false_iff.mpr c3
 subst c3
 have H1 : (some (0, 0, 0, 0, 0, 0, 0, false)) = some (r1, r2, r3, r4, r5, r6, r7, r8) := by rw [if_neg (show ¬ (false = true) by decide)] at H; exact H
 clear H
 have H := H1
 clear H1
 simp only [Option.some.injEq, Prod.mk.injEq] at H
 obtain ⟨rfl, rfl, rfl, rfl, rfl, rfl, rfl, rfl⟩ := H
 go_enter Tryd.func15, Tryd.ntmps15
 go_wp2_with (first | ((with_reducible refine gate_dst (N := 2) rfl ?_); refine box_event ?hg (N := 2) ?hd (cs := #[.int .i64 0, .int .i64 0, .int .i64 0, .int .i64 0, .int .i64 0, .int .i64 0, .int .i64 0]) (t := 24) ?hr ?_; (case hd => rfl); (case hg => rfl); (case hr => first | (go_simp; done) | (go_simp; rfl)); intro gb180 hg w188 hbox hb; have n0_ := Aside0.mk (below_step (by repeat (first | (with_reducible first | exact HB.out | apply Be | apply Bc | apply Bd) | exact HB.out)) hb); have n1_ := Aside0.mk (hbox); have n2_ := Aside0.mk ((by rw [hg]; exact (below_size (by repeat (first | (with_reducible first | exact HB.out | apply Be | apply Bc | apply Bd) | exact HB.out))) : w.heap.size ≤ gb180)); have n3_ := Aside0.mk ((by rw [hg]; exact (below_size (by repeat (first | (with_reducible first | exact HB.out | apply Be | apply Bc | apply Bd) | exact HB.out))) : w.heap.size ≤ gb180)); clear HB; have HB := n0_; have BK180 := n1_; have GW180 := n2_; have GE180 := n3_; clear n0_ n1_ n2_ n3_; clear hb hbox hg) | ((with_reducible refine gate_callee (f := 40) rfl ?_); refine goesL_ (some 21) rfl rfl Tryd.func40 (by kernel_rfl) rfl #[.string a0] rfl (by (try simp only [List.map_toArray, List.map_cons, List.map_nil]); first | done | rfl | (simp only [List.length_drop, List.length_take]; rfl)) ?_; (with_reducible refine (spec_TextValid.calls k a0 false _ A2.out).mono ?_); rintro e w' ⟨rfl, ⟨nd, rfl⟩⟩; refine ⟨_, rfl, ?_⟩; (try (rw [drewN_self w188]; generalize hq_ : World.drewN w188 _ = w188; have n0_ : Aside0 (w188.heap[gb180]? = some (.cells #[.int .i64 0, .int .i64 0, .int .i64 0, .int .i64 0, .int .i64 0, .int .i64 0, .int .i64 0] 24 (0, 0))) := ⟨by rw [← hq_]; exact (by (with_reducible repeat (first | refine Bf ?_ _ | refine Bh ?_ | refine Bg ?_ _)); exact BK180.out)⟩; have n1_ : Aside0 (Below w.heap.size w w188) := ⟨by rw [← hq_]; exact (by repeat (first | (with_reducible first | exact HB.out | apply Be | apply Bc | apply Bd | refine below_set ?_ GE180.out) | exact HB.out))⟩; clear BK180 HB hq_; have BK180 := n0_; have HB := n1_; clear n0_ n1_)); have hcz189_0 : w188.cell? ⟨gb180, 0, none⟩ = some (.int .i64 0) := (Ba BK180.out 0).trans rfl; have hcz189_1 : w188.cell? ⟨gb180, 1, none⟩ = some (.int .i64 0) := (Ba BK180.out 1).trans rfl; have hcz189_2 : w188.cell? ⟨gb180, 2, none⟩ = some (.int .i64 0) := (Ba BK180.out 2).trans rfl; have hcz189_3 : w188.cell? ⟨gb180, 3, none⟩ = some (.int .i64 0) := (Ba BK180.out 3).trans rfl; have hcz189_4 : w188.cell? ⟨gb180, 4, none⟩ = some (.int .i64 0) := (Ba BK180.out 4).trans rfl; have hcz189_5 : w188.cell? ⟨gb180, 5, none⟩ = some (.int .i64 0) := (Ba BK180.out 5).trans rfl; have hcz189_6 : w188.cell? ⟨gb180, 6, none⟩ = some (.int .i64 0) := (Ba BK180.out 6).trans rfl; have hfz189_0 := Bb BK180.out 0; have hfz189_1 := Bb BK180.out 1; have hfz189_2 := Bb BK180.out 2; have hfz189_3 := Bb BK180.out 3; have hfz189_4 := Bb BK180.out 4; have hfz189_5 := Bb BK180.out 5; have hfz189_6 := Bb BK180.out 6))
 refine bodyPost_ret (results_ct rfl _ _ gb180 24 #[.int .i64 0, .int .i64 0, .int .i64 0, .int .i64 0, .int .i64 0, .int .i64 0, .int .i64 0] (0, 0) _ rfl (by (with_reducible repeat (first | refine Bf ?_ _ | refine Bh ?_ | refine Bg ?_ _)); refine blk_put (cs := #[.int .i64 0, .int .i64 0, .int .i64 0, .int .i64 0, .int .i64 0, .int .i64 0, .int .i64 0]) ?_ 6 _ rfl; (with_reducible repeat (first | refine Bf ?_ _ | refine Bh ?_ | refine Bg ?_ _)); refine blk_put (cs := #[.int .i64 0, .int .i64 0, .int .i64 0, .int .i64 0, .int .i64 0, .int .i64 0, .int .i64 0]) ?_ 5 _ rfl; (with_reducible repeat (first | refine Bf ?_ _ | refine Bh ?_ | refine Bg ?_ _)); refine blk_put (cs := #[.int .i64 0, .int .i64 0, .int .i64 0, .int .i64 0, .int .i64 0, .int .i64 0, .int .i64 0]) ?_ 4 _ rfl; (with_reducible repeat (first | refine Bf ?_ _ | refine Bh ?_ | refine Bg ?_ _)); refine blk_put (cs := #[.int .i64 0, .int .i64 0, .int .i64 0, .int .i64 0, .int .i64 0, .int .i64 0, .int .i64 0]) ?_ 3 _ rfl; (with_reducible repeat (first | refine Bf ?_ _ | refine Bh ?_ | refine Bg ?_ _)); refine blk_put (cs := #[.int .i64 0, .int .i64 0, .int .i64 0, .int .i64 0, .int .i64 0, .int .i64 0, .int .i64 0]) ?_ 2 _ rfl; (with_reducible repeat (first | refine Bf ?_ _ | refine Bh ?_ | refine Bg ?_ _)); refine blk_put (cs := #[.int .i64 0, .int .i64 0, .int .i64 0, .int .i64 0, .int .i64 0, .int .i64 0, .int .i64 0]) ?_ 1 _ rfl; (with_reducible repeat (first | refine Bf ?_ _ | refine Bh ?_ | refine Bg ?_ _)); refine blk_put (cs := #[.int .i64 0, .int .i64 0, .int .i64 0, .int .i64 0, .int .i64 0, .int .i64 0, .int .i64 0]) ?_ 0 _ rfl; (with_reducible repeat (first | refine Bf ?_ _ | refine Bh ?_ | refine Bg ?_ _)); exact BK180.out) Tryd.underlying24 rfl (by kernel_rfl)) rfl ?_
 exact ⟨by first | rfl | (simp [errW_none, errW_some] <;> rfl) | (simp [*, errW_none, errW_some] <;> rfl), by repeat (first | (with_reducible first | exact HB.out | apply Be | apply Bc | apply Bd | refine below_set ?_ GE180.out) | exact HB.out)⟩

end Go.Proofs.YtafpbechcjcdbaaDoor.PFnExactParseDate
