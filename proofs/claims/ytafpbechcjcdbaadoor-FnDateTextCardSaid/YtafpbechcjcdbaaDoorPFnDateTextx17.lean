-- By a program of this session.
import Derived.Test.YtafpbechcjcdbaaDoorPFnDateTextx0
import Derived.Test.YtafpbechcjcdbaaDoorPFnDateTextx9
import Derived.Test.YtafpbechcjcdbaaDoorPFnDateTextx14
import Derived.Test.YtafpbechcjcdbaaDoorPFnDateTextx15
import Derived.Test.YtafpbechcjcdbaaDoorPFnDateTextx16
namespace Go.Proofs.YtafpbechcjcdbaaDoor.PFnDateText
open Go.RowKit Go.Proofs.YtafpbechcjcdbaaDoorW.PrintWords Go.Proofs.YtafpbechcjcdbaaDoorW.PrintLast Go.Proofs.YtafpbechcjcdbaaDoorW.PrintMore
open Go.Proofs.YtafpbechcjcdbaaDoorW.PrintWords renaming blk_cell → Ba, blk_frozen → Bb, pw_below_drewN → Bc, below_drew1 → Bd, below_alloc → Be, blk_drewN → Bf, blk_alloc → Bg, blk_drew → Bh, below_set → Bs
open Go.Proofs.YtafpbechcjcdbaaDoorW.PrintWords.Aside0 renaming mk → aM
open Option renaming bind_eq_some_iff → bI
open Bool renaming true → Y, false → X
open List renaming setIfInBounds_toArray → sA, set_cons_zero → sZ, set_cons_succ → sS, map_toArray → mT, map_cons → mC, map_nil → mN, length_drop → lD, length_take → lT
attribute [local go_sem] max2_int min2_int max_two min_two max_three min_three max_four min_four
set_option linter.unusedVariables false
set_option linter.unusedSimpArgs false
theorem mor7_ {P : Program} {ops : Array Oper} {Q : Exit → Act → World → Prop} {md : Region.Mode} {S S' : World → Prop} (hSS : ∀ w, S' w → S w) : ∀ (fuel : Nat) (l : Array Bool) (a : Act) (w : World), S' w → (S' w → wpAnyLast P md ops Q S' [] fuel l a w) → wpAnyLast P md ops Q S [] fuel l a w
 | 0, _, _, _, hS, h => h hS
 | fuel + 1, l, a, w, hS, h => by
  have h0 := h hS
  refine ⟨h0.1, fun i hi => wpOp_mono (fun a' w' h' => ?_) (h0.2 i hi)⟩
  have hS' : S' w' := h'.1 (by simp) hS
  exact ⟨fun _ _ => hSS _ hS', mor7_ hSS fuel _ _ _ hS' (fun _ => h'.2)⟩
mutual
def spec_ParseDate.j0 : Nat → ByteArray → ByteArray → Bool → Option (Int × Int × Int × Int × Int × Int × Int × Bool)
 | 0, _, _, _ => none
 | k + 1, x0, x4, x7 => (spec_l2Parts.f k x0 32).bind fun t329 => (spec_ParseDate.l0 k x4 x7 (([] : List ByteArray)) t329 0)
def spec_ParseDate.l0 : Nat → ByteArray → Bool → List ByteArray → List ByteArray → Int → Option (Int × Int × Int × Int × Int × Int × Int × Bool)
 | 0, _, _, _, _, _ => none
 | k + 1, x4, x7, x8, x9, x10 => if x10 < (x9.length : Int) then (if 0 ≤ x10 then (if (rdOf ByteArray.empty x9 x10).toList = ([] : List UInt8) then (spec_ParseDate.l0 k x4 x7 x8 x9 (wrap64 (x10 + 1))) else (if x8.length < 8796093022208 then (spec_ParseDate.l0 k x4 x7 (x8 ++ [rdOf ByteArray.empty x9 x10]) x9 (wrap64 (x10 + 1))) else (none))) else (none)) else (if (x8.length : Int) = 5 then (if 0 < (x8.length : Int) then ((spec_l4Digits.f k (rdOf ByteArray.empty x8 0) 1 2).bind fun bt339 => (spec_ParseDate.l1 k x4 x7 x8 bt339.2 0 0 0 bt339.1 0 0 0 0)) else (none)) else (some (0, 0, 0, 0, 0, 0, 0, false)))
def spec_ParseDate.l1 : Nat → ByteArray → Bool → List ByteArray → Bool → Int → Int → Int → Int → Int → Int → Int → Int → Option (Int × Int × Int × Int × Int × Int × Int × Bool)
 | 0, _, _, _, _, _, _, _, _, _, _, _, _ => none
 | k + 1, x4, x7, x8, x13, x14, x338000, x338001, x338002, x338003, x338004, x338005, x338006 => if x14 < 12 then (if 1 < (x8.length : Int) then ((spec_l4Months.f).bind fun t342 => (if 0 ≤ x14 then (if x14 < (t342.length : Int) then ((spec_SameText.f (rdOf ByteArray.empty x8 1) (rdOf ByteArray.empty t342 x14)).bind fun t346 => (if t346 = true then (spec_ParseDate.l1 k x4 x7 x8 x13 (wrap64 (x14 + 1)) x338000 (wrap64 (x14 + 1)) x338002 x338003 x338004 x338005 x338006) else (spec_ParseDate.l1 k x4 x7 x8 x13 (wrap64 (x14 + 1)) x338000 x338001 x338002 x338003 x338004 x338005 x338006))) else (none)) else (none))) else (none)) else (if 2 < (x8.length : Int) then ((spec_l4Digits.f k (rdOf ByteArray.empty x8 2) 4 4).bind fun bt348 => (if 3 < (x8.length : Int) then ((spec_l4Time.f k (rdOf ByteArray.empty x8 3) bt348.1 x338001 x338002 x338003 x338004 x338005 x338006).bind fun bt351 => (if 4 < (x8.length : Int) then ((spec_l4Offset.f k (rdOf ByteArray.empty x8 4)).bind fun bt360 => (if x13 = true then (if bt348.2 = true then (if bt351.2.2.2.2.2.2.2 = true then (if bt360.2 = true then ((spec_DateValid.f k bt351.1 bt351.2.1 bt351.2.2.1 bt351.2.2.2.1 bt351.2.2.2.2.1 bt351.2.2.2.2.2.1 bt360.1).bind fun t362 => (if t362 = true then (if x7 = true then ((spec_WeekdayOf.f k bt351.1 bt351.2.1 bt351.2.2.1 bt351.2.2.2.1 bt351.2.2.2.2.1 bt351.2.2.2.2.2.1 bt360.1).bind fun t363 => ((spec_SameText.f x4 t363).bind fun t364 => (if t364 = true then (some (bt351.1, bt351.2.1, bt351.2.2.1, bt351.2.2.2.1, bt351.2.2.2.2.1, bt351.2.2.2.2.2.1, bt360.1, true)) else (some (0, 0, 0, 0, 0, 0, 0, false))))) else (some (bt351.1, bt351.2.1, bt351.2.2.1, bt351.2.2.2.1, bt351.2.2.2.2.1, bt351.2.2.2.2.2.1, bt360.1, true))) else (some (0, 0, 0, 0, 0, 0, 0, false)))) else (some (0, 0, 0, 0, 0, 0, 0, false))) else (some (0, 0, 0, 0, 0, 0, 0, false))) else (some (0, 0, 0, 0, 0, 0, 0, false))) else (some (0, 0, 0, 0, 0, 0, 0, false)))) else (none))) else (none))) else (none))
end
def spec_ParseDate.f (k : Nat) (a0 : ByteArray) : Option (Int × Int × Int × Int × Int × Int × Int × Bool) := (spec_TextValid.f k a0).bind fun t321 => (if t321 = true then ((spec_l2Cut.f k a0 44).bind fun bt322 => (if bt322.2.2 = true then ((spec_l2Trim.f k bt322.1).bind fun t325 => (spec_ParseDate.j0 k bt322.2.1 t325 bt322.2.2)) else (spec_ParseDate.j0 k a0 (⟨#[]⟩ : ByteArray) bt322.2.2))) else (some (0, 0, 0, 0, 0, 0, 0, false)))
theorem spec_ParseDate.mono_l : ∀ k, (∀ y0 y1 y2, LeO (spec_ParseDate.j0 k y0 y1 y2) (spec_ParseDate.j0 (k + 1) y0 y1 y2)) ∧ (∀ y0 y1 y2 y3 y4, LeO (spec_ParseDate.l0 k y0 y1 y2 y3 y4) (spec_ParseDate.l0 (k + 1) y0 y1 y2 y3 y4)) ∧ (∀ y0 y1 y2 y3 y4 y5 y6 y7 y8 y9 y10 y11, LeO (spec_ParseDate.l1 k y0 y1 y2 y3 y4 y5 y6 y7 y8 y9 y10 y11) (spec_ParseDate.l1 (k + 1) y0 y1 y2 y3 y4 y5 y6 y7 y8 y9 y10 y11))
 | 0 => ⟨fun _ _ _ r h => by simp [spec_ParseDate.j0] at h, fun _ _ _ _ _ r h => by simp [spec_ParseDate.l0] at h, fun _ _ _ _ _ _ _ _ _ _ _ _ r h => by simp [spec_ParseDate.l1] at h⟩
 | k + 1 => by
  obtain ⟨ih0, ih1, ih2⟩ := spec_ParseDate.mono_l k
  refine ⟨?_, ?_, ?_⟩
  ·intro y0 y1 y2
   unfold spec_ParseDate.j0
   repeat' first
   | (with_reducible exact ih0 _ _ _)
   | (with_reducible exact ih1 _ _ _ _ _)
   | (with_reducible exact ih2 _ _ _ _ _ _ _ _ _ _ _ _)
   | (with_reducible exact spec_DateValid.mono _ _ _ _ _ _ _ _)
   | (with_reducible exact spec_TextValid.mono _ _)
   | (with_reducible exact spec_WeekdayOf.mono _ _ _ _ _ _ _ _)
   | (with_reducible exact spec_l2Cut.mono _ _ _)
   | (with_reducible exact spec_l2Parts.mono _ _ _)
   | (with_reducible exact spec_l2Trim.mono _ _)
   | (with_reducible exact spec_l4Digits.mono _ _ _ _)
   | (with_reducible exact spec_l4Offset.mono _ _)
   | (with_reducible exact spec_l4Time.mono _ _ _ _ _ _ _ _ _)
   | (with_reducible exact LeO.refl _)
   | (with_reducible exact LeO.none _)
   | (with_reducible refine LeO.ite ?_ ?_)
   | (with_reducible refine LeO.bind ?_ (fun _ => ?_))
  ·intro y0 y1 y2 y3 y4
   unfold spec_ParseDate.l0
   repeat' first
   | (with_reducible exact ih0 _ _ _)
   | (with_reducible exact ih1 _ _ _ _ _)
   | (with_reducible exact ih2 _ _ _ _ _ _ _ _ _ _ _ _)
   | (with_reducible exact spec_DateValid.mono _ _ _ _ _ _ _ _)
   | (with_reducible exact spec_TextValid.mono _ _)
   | (with_reducible exact spec_WeekdayOf.mono _ _ _ _ _ _ _ _)
   | (with_reducible exact spec_l2Cut.mono _ _ _)
   | (with_reducible exact spec_l2Parts.mono _ _ _)
   | (with_reducible exact spec_l2Trim.mono _ _)
   | (with_reducible exact spec_l4Digits.mono _ _ _ _)
   | (with_reducible exact spec_l4Offset.mono _ _)
   | (with_reducible exact spec_l4Time.mono _ _ _ _ _ _ _ _ _)
   | (with_reducible exact LeO.refl _)
   | (with_reducible exact LeO.none _)
   | (with_reducible refine LeO.ite ?_ ?_)
   | (with_reducible refine LeO.bind ?_ (fun _ => ?_))
  intro y0 y1 y2 y3 y4 y5 y6 y7 y8 y9 y10 y11
  unfold spec_ParseDate.l1
  repeat' first
  | (with_reducible exact ih0 _ _ _)
  | (with_reducible exact ih1 _ _ _ _ _)
  | (with_reducible exact ih2 _ _ _ _ _ _ _ _ _ _ _ _)
  | (with_reducible exact spec_DateValid.mono _ _ _ _ _ _ _ _)
  | (with_reducible exact spec_TextValid.mono _ _)
  | (with_reducible exact spec_WeekdayOf.mono _ _ _ _ _ _ _ _)
  | (with_reducible exact spec_l2Cut.mono _ _ _)
  | (with_reducible exact spec_l2Parts.mono _ _ _)
  | (with_reducible exact spec_l2Trim.mono _ _)
  | (with_reducible exact spec_l4Digits.mono _ _ _ _)
  | (with_reducible exact spec_l4Offset.mono _ _)
  | (with_reducible exact spec_l4Time.mono _ _ _ _ _ _ _ _ _)
  | (with_reducible exact LeO.refl _)
  | (with_reducible exact LeO.none _)
  | (with_reducible refine LeO.ite ?_ ?_)
  | (with_reducible refine LeO.bind ?_ (fun _ => ?_))
theorem spec_ParseDate.mono : ∀ a0 k, LeO (spec_ParseDate.f k a0) (spec_ParseDate.f (k + 1) a0) := by
 intro a0 k
 obtain ⟨ih0, ih1, ih2⟩ := spec_ParseDate.mono_l k
 unfold spec_ParseDate.f
 repeat' first
   | (with_reducible exact ih0 _ _ _)
   | (with_reducible exact ih1 _ _ _ _ _)
   | (with_reducible exact ih2 _ _ _ _ _ _ _ _ _ _ _ _)
   | (with_reducible exact spec_DateValid.mono _ _ _ _ _ _ _ _)
   | (with_reducible exact spec_TextValid.mono _ _)
   | (with_reducible exact spec_WeekdayOf.mono _ _ _ _ _ _ _ _)
   | (with_reducible exact spec_l2Cut.mono _ _ _)
   | (with_reducible exact spec_l2Parts.mono _ _ _)
   | (with_reducible exact spec_l2Trim.mono _ _)
   | (with_reducible exact spec_l4Digits.mono _ _ _ _)
   | (with_reducible exact spec_l4Offset.mono _ _)
   | (with_reducible exact spec_l4Time.mono _ _ _ _ _ _ _ _ _)
   | (with_reducible exact LeO.refl _)
   | (with_reducible exact LeO.none _)
   | (with_reducible refine LeO.ite ?_ ?_)
   | (with_reducible refine LeO.bind ?_ (fun _ => ?_))
def spec_ParseDate.T23 : Bool × List (List Nat × List Nat) := (true, [([], []), ([0], [0]), ([1], [1]), ([], []), ([], []), ([3, 4], [3, 4]), ([5], [5]), ([2, 6, 3], [2, 6])])
def spec_ParseDate.B23 : List Nat := [0, 1, 3, 0, 0, 24, 56, 127]
theorem spec_ParseDate.tab23 : rtab .any (opsOf Tryd.f15 23) = spec_ParseDate.T23 := by kernel_rfl
theorem spec_ParseDate.bits23 : waitsOk spec_ParseDate.T23.2 spec_ParseDate.B23 = true := by kernel_rfl
def spec_ParseDate.T27 : Bool × List (List Nat × List Nat) := (true, [([], []), ([0], [0]), ([1], [1]), ([], []), ([2, 3], [2, 3]), ([4], [4]), ([5], [5]), ([5], [5]), ([6, 4, 0, 1, 2, 3, 4, 5, 6], [6]), ([7, 8, 0, 1, 2, 3, 4, 5, 6, 7, 8], [7])])
def spec_ParseDate.B27 : List Nat := [0, 1, 3, 0, 15, 31, 63, 63, 127, 511]
theorem spec_ParseDate.tab27 : rtab .any (opsOf Tryd.f15 27) = spec_ParseDate.T27 := by kernel_rfl
theorem spec_ParseDate.bits27 : waitsOk spec_ParseDate.T27.2 spec_ParseDate.B27 = true := by kernel_rfl
theorem seven_ {W : World} {g : Nat} {t : TypeId} {o0 o1 o2 o3 o4 o5 o6 v0 v1 v2 v3 v4 v5 v6 : Value} (hx : W.heap[g]? = some (.cells #[o0, o1, o2, o3, o4, o5, o6] t (0, 0))) : (((((((W.setCell ⟨g, 0, none⟩ v0).setCell ⟨g, 1, none⟩ v1).setCell ⟨g, 2, none⟩ v2).setCell ⟨g, 3, none⟩ v3).setCell ⟨g, 4, none⟩ v4).setCell ⟨g, 5, none⟩ v5).setCell ⟨g, 6, none⟩ v6).heap[g]? = some (.cells #[v0, v1, v2, v3, v4, v5, v6] t (0, 0)) :=
  blk_put (cs := #[v0, v1, v2, v3, v4, v5, o6]) (blk_put (cs := #[v0, v1, v2, v3, v4, o5, o6]) (blk_put (cs := #[v0, v1, v2, v3, o4, o5, o6]) (blk_put (cs := #[v0, v1, v2, o3, o4, o5, o6]) (blk_put (cs := #[v0, v1, o2, o3, o4, o5, o6]) (blk_put (cs := #[v0, o1, o2, o3, o4, o5, o6]) (blk_put (cs := #[o0, o1, o2, o3, o4, o5, o6]) hx 0 _ rfl) 1 _ rfl) 2 _ rfl) 3 _ rfl) 4 _ rfl) 5 _ rfl) 6 _ rfl
theorem below7_ {w W : World} {g : Nat} {v0 v1 v2 v3 v4 v5 v6 : Value} (hb : Below w.heap.size w W) (hg : w.heap.size ≤ g) : Below w.heap.size w (((((((W.setCell ⟨g, 0, none⟩ v0).setCell ⟨g, 1, none⟩ v1).setCell ⟨g, 2, none⟩ v2).setCell ⟨g, 3, none⟩ v3).setCell ⟨g, 4, none⟩ v4).setCell ⟨g, 5, none⟩ v5).setCell ⟨g, 6, none⟩ v6) :=
  ((((((hb.setCell hg _).setCell hg _).setCell hg _).setCell hg _).setCell hg _).setCell hg _).setCell hg _
theorem put7_ {w W : World} {g : Nat} {t : TypeId} {o0 o1 o2 o3 o4 o5 o6 v0 v1 v2 v3 v4 v5 v6 : Value} (hb : Below w.heap.size w W) (hg : w.heap.size ≤ g) (hx : W.heap[g]? = some (.cells #[o0, o1, o2, o3, o4, o5, o6] t (0, 0))) :
    ∃ V, V = (((((((W.setCell ⟨g, 0, none⟩ v0).setCell ⟨g, 1, none⟩ v1).setCell ⟨g, 2, none⟩ v2).setCell ⟨g, 3, none⟩ v3).setCell ⟨g, 4, none⟩ v4).setCell ⟨g, 5, none⟩ v5).setCell ⟨g, 6, none⟩ v6) ∧ V.heap[g]? = some (.cells #[v0, v1, v2, v3, v4, v5, v6] t (0, 0)) ∧ Below w.heap.size w V ∧
      (∀ g' t' cs, g' ≠ g → W.heap[g']? = some (.cells cs t' (0, 0)) → V.heap[g']? = some (.cells cs t' (0, 0))) ∧ ∀ p : Addr, p.block ≠ g → V.cell? p = W.cell? p :=
  ⟨_, rfl, seven_ hx, below7_ hb hg, fun g' t' cs hn h => blk_far (blk_far (blk_far (blk_far (blk_far (blk_far (blk_far h hn _) hn _) hn _) hn _) hn _) hn _) hn _, fun p hp => by
    have hp2 : g ≠ p.block := fun q => hp q.symm
    rw [World.cell?_setCell_far _ _ _ _ hp2, World.cell?_setCell_far _ _ _ _ hp2, World.cell?_setCell_far _ _ _ _ hp2, World.cell?_setCell_far _ _ _ _ hp2, World.cell?_setCell_far _ _ _ _ hp2, World.cell?_setCell_far _ _ _ _ hp2, World.cell?_setCell_far _ _ _ _ hp2]⟩
theorem put6_ {w W : World} {g : Nat} {t : TypeId} {o0 o1 o2 o3 o4 o5 o6 v : Value} (hb : Below w.heap.size w W) (hg : w.heap.size ≤ g) (hx : W.heap[g]? = some (.cells #[o0, o1, o2, o3, o4, o5, o6] t (0, 0))) :
    ∃ V, V = W.setCell ⟨g, 6, none⟩ v ∧ V.heap[g]? = some (.cells #[o0, o1, o2, o3, o4, o5, v] t (0, 0)) ∧ Below w.heap.size w V ∧ ∀ g' t' cs, g' ≠ g → W.heap[g']? = some (.cells cs t' (0, 0)) → V.heap[g']? = some (.cells cs t' (0, 0)) :=
  ⟨_, rfl, blk_put (cs := #[o0, o1, o2, o3, o4, o5, o6]) hx 6 _ rfl, hb.setCell hg _, fun g' t' cs hn h => blk_far h hn _⟩
set_option maxHeartbeats 8000000 in
set_option maxRecDepth 100000 in
theorem spec_ParseDate.calls (k : Nat) (a0 : ByteArray) (r1 : Int) (r2 : Int) (r3 : Int) (r4 : Int) (r5 : Int) (r6 : Int) (r7 : Int) (r8 : Bool) (w : World) (h : spec_ParseDate.f k a0 = some (r1, r2, r3, r4, r5, r6, r7, r8)) :
  Calls Tryd.prog 15 #[.string a0] w fun e w' => e = .returned (.tuple #[.agg #[.int .i64 r1, .int .i64 r2, .int .i64 r3, .int .i64 r4, .int .i64 r5, .int .i64 r6, .int .i64 r7], .bool r8]) ∧ Below w.heap.size w w' := by
 have hu24 := Tryd.underlying24
 have HB := aM (Below.refl w.heap.size w)
 have H : ((spec_TextValid.f k a0).bind fun t321 => (if t321 = true then ((spec_l2Cut.f k a0 44).bind fun bt322 => (if bt322.2.2 = true then ((spec_l2Trim.f k bt322.1).bind fun t325 => (spec_ParseDate.j0 k bt322.2.1 t325 bt322.2.2)) else (spec_ParseDate.j0 k a0 (⟨#[]⟩ : ByteArray) bt322.2.2))) else (some (0, 0, 0, 0, 0, 0, 0, false)))) = some (r1, r2, r3, r4, r5, r6, r7, r8) := h
 clear h
 replace H := bI.mp H
 obtain ⟨t321, A20, H⟩ := H
 (try dsimp only at H)
 have A2 := aM A20
 clear A20
 by_cases c3 : t321 = true
 rotate_left
 ·replace c3 := Bool.eq_false_iff.mpr c3
  subst c3
  have H1 : (some (0, 0, 0, 0, 0, 0, 0, false)) = some (r1, r2, r3, r4, r5, r6, r7, r8) := by rw [if_neg (show ¬ (false = true) by decide)] at H; exact H
  clear H
  have H := H1
  clear H1
  simp only [Option.some.injEq, Prod.mk.injEq] at H
  obtain ⟨rfl, rfl, rfl, rfl, rfl, rfl, rfl, rfl⟩ := H
  go_enter Tryd.func15, Tryd.ntmps15
  go_wp2_with (first | ((with_reducible refine gate_dst (N := 2) rfl ?_); refine box_event ?hg (N := 2) ?hd (cs := #[.int .i64 0, .int .i64 0, .int .i64 0, .int .i64 0, .int .i64 0, .int .i64 0, .int .i64 0]) (t := 24) ?hr ?_; (case hd => rfl); (case hg => rfl); (case hr => first | (go_simp; done) | (go_simp; rfl)); intro gb320 hg w188 hbox hb; have n0_ := aM (below_step (by repeat (with_reducible first | exact HB.out | apply Be | apply Bc | apply Bd)) hb); have n1_ := aM (hbox); have n2_ := aM ((by rw [hg]; exact (below_size (by repeat (with_reducible first | exact HB.out | apply Be | apply Bc | apply Bd))) : w.heap.size ≤ gb320)); have n3_ := n2_; clear HB; have HB := n0_; have BK320 := n1_; have GW320 := n2_; have GE320 := n3_; clear n0_ n1_ n2_ n3_; clear hb hbox hg) | ((with_reducible refine gate_callee (f := 40) rfl ?_); refine goesL_ (some 21) rfl rfl Tryd.func40 (by kernel_rfl) rfl #[.string a0] rfl (by (try simp only [mT, mC, mN]) <;> rfl) ?_; (with_reducible refine (spec_TextValid.calls k a0 false _ A2.out).mono ?_); rintro e w' ⟨rfl, ⟨nd, rfl⟩⟩; refine ⟨_, rfl, ?_⟩; (try (rw [drewN_self w188]; generalize hq_ : World.drewN w188 _ = w188; have n0_ : Aside0 (w188.heap[gb320]? = some (.cells #[.int .i64 0, .int .i64 0, .int .i64 0, .int .i64 0, .int .i64 0, .int .i64 0, .int .i64 0] 24 (0, 0))) := ⟨by rw [← hq_]; exact (by (with_reducible repeat (first | refine Bf ?_ _ | refine Bh ?_ | refine Bg ?_ _)); exact BK320.out)⟩; have n1_ : Aside0 (Below w.heap.size w w188) := ⟨by rw [← hq_]; exact (by repeat (with_reducible first | exact HB.out | apply Be | apply Bc | apply Bd | refine Bs ?_ GE320.out))⟩; clear BK320 HB hq_; have BK320 := n0_; have HB := n1_; clear n0_ n1_)); obtain ⟨hcz189_0, hcz189_1, hcz189_2, hcz189_3, hcz189_4, hcz189_5, hcz189_6⟩ := c7_ BK320.out; obtain ⟨hfz189_0, hfz189_1, hfz189_2, hfz189_3, hfz189_4, hfz189_5, hfz189_6⟩ := f7_ BK320.out))
  refine bodyPost_ret (results_ct rfl _ _ gb320 24 #[.int .i64 0, .int .i64 0, .int .i64 0, .int .i64 0, .int .i64 0, .int .i64 0, .int .i64 0] (0, 0) _ rfl (by (with_reducible repeat (first | refine Bf ?_ _ | refine Bh ?_ | refine Bg ?_ _)); refine p7_ (show _ = some (Obj.cells #[.int .i64 0, .int .i64 0, .int .i64 0, .int .i64 0, .int .i64 0, .int .i64 0, .int .i64 0] _ (0, 0)) from ?_); (with_reducible repeat (first | refine Bf ?_ _ | refine Bh ?_ | refine Bg ?_ _)); exact BK320.out) Tryd.underlying24 rfl (by kernel_rfl)) rfl ?_
  exact ⟨by first | rfl | (simp [errW_none, errW_some] <;> rfl) | (simp [*, errW_none, errW_some] <;> rfl), by repeat (with_reducible first | exact HB.out | apply Be | apply Bc | apply Bd | refine Bs ?_ GE320.out)⟩
 subst c3
 have H1 : ((spec_l2Cut.f k a0 44).bind fun bt322 => (if bt322.2.2 = true then ((spec_l2Trim.f k bt322.1).bind fun t325 => (spec_ParseDate.j0 k bt322.2.1 t325 bt322.2.2)) else (spec_ParseDate.j0 k a0 (⟨#[]⟩ : ByteArray) bt322.2.2))) = some (r1, r2, r3, r4, r5, r6, r7, r8) := by rw [if_pos rfl] at H; exact H
 clear H
 have H := H1
 clear H1
 replace H := bI.mp H
 obtain ⟨⟨t322, t323, t324⟩, A40, H⟩ := H
 (try dsimp only at H)
 have A4 := aM A40
 clear A40
 have HC5 := aM H
 clear H
 go_enter Tryd.func15, Tryd.ntmps15
 go_upto_if 30 with (first | ((with_reducible refine gate_dst (N := 2) rfl ?_); refine box_event ?hg (N := 2) ?hd (cs := #[.int .i64 0, .int .i64 0, .int .i64 0, .int .i64 0, .int .i64 0, .int .i64 0, .int .i64 0]) (t := 24) ?hr ?_; (case hd => rfl); (case hg => rfl); (case hr => first | (go_simp; done) | (go_simp; rfl)); intro gb320 hg w6 hbox hb; have n0_ := aM (below_step (by repeat (with_reducible first | exact HB.out | apply Be | apply Bc | apply Bd)) hb); have n1_ := aM (hbox); have n2_ := aM ((by rw [hg]; exact (below_size (by repeat (with_reducible first | exact HB.out | apply Be | apply Bc | apply Bd))) : w.heap.size ≤ gb320)); have n3_ := n2_; clear HB; have HB := n0_; have BK320 := n1_; have GW320 := n2_; have GE320 := n3_; clear n0_ n1_ n2_ n3_; clear hb hbox hg) | ((with_reducible refine gate_callee (f := 40) rfl ?_); refine goesL_ (some 21) rfl rfl Tryd.func40 (by kernel_rfl) rfl #[.string a0] rfl (by (try simp only [mT, mC, mN]) <;> rfl) ?_; (with_reducible refine (spec_TextValid.calls k a0 true _ A2.out).mono ?_); rintro e w' ⟨rfl, ⟨nd, rfl⟩⟩; refine ⟨_, rfl, ?_⟩) | ((with_reducible refine gate_callee (f := 41) rfl ?_); refine goesL_ (some 26) rfl rfl Tryd.func41 (by kernel_rfl) rfl #[.string a0, .int .u8 44] rfl (by (try simp only [mT, mC, mN]) <;> rfl) ?_; (with_reducible refine (spec_l2Cut.calls k a0 44 t322 t323 t324 _ A4.out).mono ?_); rintro e w' ⟨rfl, ⟨nd, rfl⟩⟩; refine ⟨_, rfl, ?_⟩))
 (try simp only [Act.put, sA, sZ, sS])
 go_cut [0, 4] (fun v0 v4 wc => ∃ (kq : Nat) (x0_4 : ByteArray) (x4_4 : ByteArray), v0 = .string x0_4 ∧ v4 = .string x4_4 ∧ Aside0 (spec_ParseDate.j0 kq x0_4 x4_4 t324 = some (r1, r2, r3, r4, r5, r6, r7, r8)) ∧ Aside0 (kq ≤ k) ∧ Aside0 (wc.heap[gb320]? = some (.cells #[.int .i64 0, .int .i64 0, .int .i64 0, .int .i64 0, .int .i64 0, .int .i64 0, .int .i64 0] 24 (0, 0))) ∧ Aside0 (Below w.heap.size w wc))
 case first =>
  have H := HC5.out; clear HC5
  by_cases c7 : t324 = true
  ·subst c7
   rw [if_pos rfl] at H; replace H := bI.mp H
   obtain ⟨t325, A80, H⟩ := H
   (try dsimp only at H)
   have A8 := aM A80; clear A80
   have H' := aM H
   clear H
   go_wp2_with (first | ((with_reducible refine gate_callee (f := 42) rfl ?_); refine goesL_ (some 32) rfl rfl Tryd.func42 (by kernel_rfl) rfl #[.string t322] rfl (by (try simp only [mT, mC, mN]) <;> rfl) ?_; (with_reducible refine (spec_l2Trim.calls k t322 t325 _ A8.out).mono ?_); rintro e w' ⟨rfl, ⟨nd, rfl⟩⟩; refine ⟨_, rfl, ?_⟩))
   go_meet
   case rel => exact ⟨_, (t323), (t325), (by first | rfl | (simp; done) | (simp [*]; done)), (by first | rfl | (simp; done) | (simp [*]; done)), H', ⟨by first | omega | exact Nat.le_refl _⟩, ⟨by (with_reducible repeat (first | refine Bf ?_ _ | refine Bh ?_ | refine Bg ?_ _)); exact BK320.out⟩, ⟨by repeat (with_reducible first | exact HB.out | apply Be | apply Bc | apply Bd | refine Bs ?_ GE320.out)⟩⟩
  replace c7 := Bool.eq_false_iff.mpr c7
  subst c7
  rw [if_neg (show ¬ (false = true) by decide)] at H
  have H' := aM H
  clear H
  go_wp2
  go_meet
  case rel => exact ⟨_, (a0), ((⟨#[]⟩ : ByteArray)), (by first | rfl | (simp; done) | (simp [*]; done)), (by first | rfl | (simp; done) | (simp [*]; done)), H', ⟨by first | omega | exact Nat.le_refl _⟩, ⟨by (with_reducible repeat (first | refine Bf ?_ _ | refine Bh ?_ | refine Bg ?_ _)); exact BK320.out⟩, ⟨by repeat (with_reducible first | exact HB.out | apply Be | apply Bc | apply Bd | refine Bs ?_ GE320.out)⟩⟩
 case rest =>
  clear HC5
  try clear c1
  try clear p2
  try clear c3
  try clear c4
  try clear c7
  obtain ⟨kq, x0_4, x4_4, rfl, rfl, HA, HJ4, BK320, HB⟩ := hcut
  cases kq with
  | zero => exact absurd HA.out (by simp [spec_ParseDate.j0])
  | succ kj4 =>
   have H := HA.out; clear HA
   simp only [spec_ParseDate.j0] at H
   obtain ⟨y326, hy326⟩ : ∃ y_ : List ByteArray, y_ = (([] : List ByteArray)) := ⟨_, rfl⟩
   replace H : ((spec_l2Parts.f kj4 x0_4 32).bind fun t329 => (spec_ParseDate.l0 kj4 x4_4 t324 y326 t329 0)) = some (r1, r2, r3, r4, r5, r6, r7, r8) := by first | (rw [hy326]; with_reducible exact H) | (have H2_ := (Option.bind_some _ _).symm.trans H; rw [hy326]; with_reducible exact H2_) | (have H2_ := (Option.bind_some _ _).symm.trans H; with_reducible exact H2_) | with_reducible exact H | (rw [hy326]; exact H) | exact H
   have Ny326 := aM hy326; clear hy326; replace H := bI.mp H
   obtain ⟨t329, A90, H⟩ := H
   (try dsimp only at H)
   have A9 := aM A90; clear A90
   have H' := aM H
   clear H
   go_wp2_with (first | ((with_reducible refine gate_dst (N := 34) rfl ?_); refine Kd.R_lit Kd.string _ 9 ?hg (N := 34) ?hd (xs := ([] : List ByteArray)) (inner := []) (ok := fun _ => True) (okp := fun _ => True) ?hr ?hp (fun _ hk => hk) trivial (Below.refl _ _) (Nat.le_refl _) (by simp) ?_; (case hd => rfl); (case hg => rfl); (case hr => first | (go_simp; done) | (go_simp; rfl)); (case hp => exact (Reps.none _ _)); intro v327 w10 ho11 hb hg_ hnew_; clear hg_ hnew_; (first | rw [← Ny326.out] at ho11 | (simp only [Int.reduceToNat] at ho11; rw [← Ny326.out] at ho11)); have n0_ := aM (Kd.R_lower ho11 (below_size (by repeat (with_reducible first | exact HB.out | apply Be | apply Bc | apply Bd | refine Bs ?_ GE320.out)))); have n1_ := aM (blk_below (by (with_reducible repeat (first | refine Bf ?_ _ | refine Bh ?_ | refine Bg ?_ _)); exact BK320.out) hb); have n2_ := aM (below_step (by repeat (with_reducible first | exact HB.out | apply Be | apply Bc | apply Bd | refine Bs ?_ GE320.out)) hb); clear BK320; clear HB; have HO328 := n0_; have BK320 := n1_; have HB := n2_; clear n0_ n1_ n2_; clear hb ho11) | ((with_reducible refine gate_callee (f := 43) rfl ?_); refine goesL_ (some 36) rfl rfl Tryd.func43 (by kernel_rfl) rfl #[.string x0_4, .int .u8 32] rfl (by (try simp only [mT, mC, mN]) <;> rfl) ?_; (with_reducible refine (spec_l2Parts.calls kj4 x0_4 32 t329 _ A9.out).mono ?_); rintro e w12 ⟨v330, rfl, ho0, hb⟩; refine ⟨_, rfl, ?_⟩; have n0_ := aM (Kd.R_elder' (by (with_reducible repeat (first | apply Kd.R_alloc | apply Kd.R_drewN | apply Kd.R_drew)); exact HO328.out) (Kd.R_base ho0) hb); have n1_ := aM (Kd.R_lower (Kd.R_new' ho0 (Kd.R_lt (by (with_reducible repeat (first | apply Kd.R_alloc | apply Kd.R_drewN | apply Kd.R_drew)); exact HO328.out))) (below_size (by repeat (with_reducible first | exact HB.out | apply Be | apply Bc | apply Bd | refine Bs ?_ GE320.out)))); have n2_ := aM (blk_below (by (with_reducible repeat (first | refine Bf ?_ _ | refine Bh ?_ | refine Bg ?_ _)); exact BK320.out) hb); have n3_ := aM (below_step (by repeat (with_reducible first | exact HB.out | apply Be | apply Bc | apply Bd | refine Bs ?_ GE320.out)) hb); clear HO328; clear BK320; clear HB; have HO328 := n0_; have HO331 := n1_; have BK320 := n2_; have HB := n3_; clear n0_ n1_ n2_ n3_; (try clear hb); (try clear hb2); (try clear hk); (try clear hi); (try clear ho0)))
   go_loopg [8, 10] kj4 (fun kq v8 v10 w' => ∃ (x8_2 : List ByteArray) (x10_2 : Int), v10 = .int .i64 x10_2 ∧ Aside0 (spec_ParseDate.l0 kq x4_4 t324 x8_2 t329 x10_2 = some (r1, r2, r3, r4, r5, r6, r7, r8)) ∧ Aside0 (kq ≤ kj4) ∧ Aside0 (Kd.R Kd.string 9 w' w.heap.size (fun k_ => some k_ ≠ (v330 : Value).ownBlock) v8 x8_2) ∧ Aside0 (Kd.R Kd.string 9 w' w.heap.size (fun k_ => some k_ ≠ (v8 : Value).ownBlock) v330 t329) ∧ Aside0 (w'.heap[gb320]? = some (.cells #[.int .i64 0, .int .i64 0, .int .i64 0, .int .i64 0, .int .i64 0, .int .i64 0, .int .i64 0] 24 (0, 0))) ∧ Aside0 (Below w.heap.size w w'))
   case atStart => exact ⟨(y326), (0), (by first | rfl | (simp; done) | (simp [*]; done)), H', ⟨Nat.le_refl _⟩, ⟨by (with_reducible repeat (first | apply Kd.R_alloc | apply Kd.R_drewN | apply Kd.R_drew)); exact Kd.R_mono HO328.out (fun _ hk => hk.2)⟩, ⟨by (with_reducible repeat (first | apply Kd.R_alloc | apply Kd.R_drewN | apply Kd.R_drew)); exact Kd.R_mono HO331.out (fun _ hk => hk.2)⟩, ⟨by (with_reducible repeat (first | refine Bf ?_ _ | refine Bh ?_ | refine Bg ?_ _)); exact BK320.out⟩, ⟨by repeat (with_reducible first | exact HB.out | apply Be | apply Bc | apply Bd | refine Bs ?_ GE320.out)⟩⟩
   case round =>
    clear H'
    try clear c1
    try clear p2
    try clear c3
    try clear c4
    try clear c7
    try clear p2
    obtain ⟨x8_2, x10_2, rfl, HA, HK2, HO_8, HO_9, BK320, HB⟩ := hrel
    cases gk with
    | zero => exact absurd HA.out (by simp [spec_ParseDate.l0])
    | succ k2 =>
     have H := HA.out; clear HA
     simp only [spec_ParseDate.l0] at H
     by_cases c13 : x10_2 < (t329.length : Int)
     ·rw [if_pos c13] at H
      have c13b0 : decide (x10_2 < (t329.length : Int)) = true := decide_eq_true c13
      clear c13
      by_cases c14 : 0 ≤ x10_2
      rotate_left
      ·rw [if_neg c14] at H
       exact absurd H (by simp)
      rw [if_pos c14] at H
      have c14b0 : decide (0 ≤ x10_2) = true := decide_eq_true c14
      clear c14
      by_cases c15 : (rdOf ByteArray.empty t329 x10_2).toList = ([] : List UInt8)
      ·rw [if_pos c15] at H
       have c15b0 : ((rdOf ByteArray.empty t329 x10_2).toList == ([] : List UInt8)) = true := beq_iff_eq.mpr c15
       have c15b1 : ((rdOf ByteArray.empty t329 x10_2).toList != ([] : List UInt8)) = false := bne_eq_false_iff_eq.mpr c15
       clear c15
       have H' := aM H
       clear H
       obtain ⟨Ao16, co16, eo16⟩ := Kd.R_slice HO_9.out
       subst eo16
       have p332 : 0 ≤ (x10_2 : Int) := of_decide_eq_true (by first | (with_reducible assumption) | assumption)
       have q332 : x10_2 < (t329.length : Int) := of_decide_eq_true (by first | (with_reducible assumption) | assumption)
       (try (obtain ⟨Ay_, cy_, ey_⟩ := Kd.R_slice HO_9.out; subst ey_))
       obtain ⟨ad332, e332, hx332_0⟩ := Kd.at_string (Kd.R_reads' HO_9.out).2.2 x10_2 p332 q332
       cases e332
       replace p332 := eq_true p332; replace q332 := eq_true q332
       go_wp2
       go_roundg k2
       case measure => have := HJ4.out; have := HK2.out; omega
       case rel => exact ⟨(x8_2), (wrap64 (x10_2 + 1)), (by first | rfl | (simp; done) | (simp [*]; done)), H', ⟨by have := HJ4.out; have := HK2.out; omega⟩, ⟨by (with_reducible repeat (first | apply Kd.R_alloc | apply Kd.R_drewN | apply Kd.R_drew)); exact HO_8.out⟩, ⟨by (with_reducible repeat (first | apply Kd.R_alloc | apply Kd.R_drewN | apply Kd.R_drew)); exact HO_9.out⟩, ⟨by (with_reducible repeat (first | refine Bf ?_ _ | refine Bh ?_ | refine Bg ?_ _)); exact BK320.out⟩, ⟨by repeat (with_reducible first | exact HB.out | apply Be | apply Bc | apply Bd | refine Bs ?_ GE320.out)⟩⟩
      rw [if_neg c15] at H
      have c15b0 : ((rdOf ByteArray.empty t329 x10_2).toList == ([] : List UInt8)) = false := beq_eq_false_iff_ne.mpr c15
      have c15b1 : ((rdOf ByteArray.empty t329 x10_2).toList != ([] : List UInt8)) = true := bne_iff_ne.mpr c15
      by_cases c17 : x8_2.length < 8796093022208
      rotate_left
      ·rw [if_neg c17] at H
       exact absurd H (by simp)
      rw [if_pos c17] at H
      have LMc17 := aM c17; clear c17
      obtain ⟨y334, hy334⟩ : ∃ y_ : List ByteArray, y_ = (x8_2 ++ [rdOf ByteArray.empty t329 x10_2]) := ⟨_, rfl⟩
      replace H : (spec_ParseDate.l0 k2 x4_4 t324 y334 t329 (wrap64 (x10_2 + 1))) = some (r1, r2, r3, r4, r5, r6, r7, r8) := by first | (rw [hy334]; with_reducible exact H) | (have H2_ := (Option.bind_some _ _).symm.trans H; rw [hy334]; with_reducible exact H2_) | (have H2_ := (Option.bind_some _ _).symm.trans H; with_reducible exact H2_) | with_reducible exact H | (rw [hy334]; exact H) | exact H
      have Ny334 := aM hy334; clear hy334
      have H' := aM H
      clear H
      obtain ⟨Ao18, co18, eo18⟩ := Kd.R_slice HO_9.out
      subst eo18
      have p332 : 0 ≤ (x10_2 : Int) := of_decide_eq_true (by first | (with_reducible assumption) | assumption)
      have q332 : x10_2 < (t329.length : Int) := of_decide_eq_true (by first | (with_reducible assumption) | assumption)
      (try (obtain ⟨Ay_, cy_, ey_⟩ := Kd.R_slice HO_9.out; subst ey_))
      obtain ⟨ad332, e332, hx332_0⟩ := Kd.at_string (Kd.R_reads' HO_9.out).2.2 x10_2 p332 q332
      cases e332
      replace p332 := eq_true p332; replace q332 := eq_true q332
      have p333 : 0 ≤ (x10_2 : Int) := of_decide_eq_true (by first | (with_reducible assumption) | assumption)
      have q333 : x10_2 < (t329.length : Int) := of_decide_eq_true (by first | (with_reducible assumption) | assumption)
      (try (obtain ⟨Ay_, cy_, ey_⟩ := Kd.R_slice HO_9.out; subst ey_))
      obtain ⟨ad333, e333, hx333_0⟩ := Kd.at_string (Kd.R_reads' HO_9.out).2.2 x10_2 p333 q333
      obtain rfl : ad332 = ad333 := (by injection e333)
      replace p333 := eq_true p333; replace q333 := eq_true q333
      go_wp2_with (first | ((with_reducible refine gate_builtin (b := .append) (xs := #[.tmp 48, .tmp 53]) rfl ?_); at_builtin; refine Kd.R_append Kd.string (w0 := w) w.heap.size rfl (.tmp 48) (.tmp 53) 42 9 (.string ⟨#[]⟩) 16 rfl Tryd.underlying42 info9 rfl (by decide) (by omega) u8 x8_2 (rdOf ByteArray.empty t329 x10_2) [.string (rdOf ByteArray.empty t329 x10_2)] (fun k_ => some k_ ≠ (.slice (some ad332) t329.length co18 : Value).ownBlock) (fun _ => False) rfl rfl ?aP (fun _ hk => hk.elim) ?aF ?aO ?aB ?aS ?aL ?_; (case aP => exact rfl); (case aB => exact (by repeat (with_reducible first | exact HB.out | apply Be | apply Bc | apply Bd | refine Bs ?_ GE320.out))); (case aF => exact (fun k_ hk => Kd.fresh' (Kd.R_lt (by (with_reducible repeat (first | apply Kd.R_alloc | apply Kd.R_drewN | apply Kd.R_drew)); exact HO_9.out)) k_ hk)); (case aO => exact (by (with_reducible repeat (first | apply Kd.R_alloc | apply Kd.R_drewN | apply Kd.R_drew)); exact HO_8.out)); (case aS => exact (below_size (by repeat (with_reducible first | exact HB.out | apply Be | apply Bc | apply Bd | refine Bs ?_ GE320.out)))); (case aL => have := LMc17.out; omega); intro v335 w19 ho hb hg hat; rw [← Ny334.out] at ho; have n0_ := aM (Kd.R_after (ok := (fun _ => True)) (by (with_reducible repeat (first | apply Kd.R_alloc | apply Kd.R_drewN | apply Kd.R_drew)); exact Kd.R_mono HO_9.out (fun _ hk => ⟨trivial, hk⟩)) hg hat); have n1_ := aM (blk_grown (g := gb320) (o := .cells #[.int .i64 0, .int .i64 0, .int .i64 0, .int .i64 0, .int .i64 0, .int .i64 0, .int .i64 0] 24 (0, 0)) (by (with_reducible repeat (first | refine Bf ?_ _ | refine Bh ?_ | refine Bg ?_ _)); exact BK320.out) hg (Kd.R_ne HO_8.out BK320.out (by decide))); have n2_ := aM (hb); have n3_ := aM (ho); clear HO_9; clear BK320; clear HB; clear HO_8; have HO_9 := n0_; have BK320 := n1_; have HB := n2_; have HO336 := n3_; clear n0_ n1_ n2_ n3_; clear ho hb hg hat))
      go_roundg k2
      case measure => have := HJ4.out; have := HK2.out; omega
      case rel => exact ⟨(y334), (wrap64 (x10_2 + 1)), (by first | rfl | (simp; done) | (simp [*]; done)), H', ⟨by have := HJ4.out; have := HK2.out; omega⟩, ⟨by (with_reducible repeat (first | apply Kd.R_alloc | apply Kd.R_drewN | apply Kd.R_drew)); exact HO336.out⟩, ⟨by (with_reducible repeat (first | apply Kd.R_alloc | apply Kd.R_drewN | apply Kd.R_drew)); exact Kd.R_mono HO_9.out (fun _ hk => hk.2)⟩, ⟨by (with_reducible repeat (first | refine Bf ?_ _ | refine Bh ?_ | refine Bg ?_ _)); exact BK320.out⟩, ⟨by repeat (with_reducible first | exact HB.out | apply Be | apply Bc | apply Bd | refine Bs ?_ GE320.out)⟩⟩
     rw [if_neg c13] at H
     have c13b0 : decide (x10_2 < (t329.length : Int)) = false := decide_eq_false c13
     clear c13
     by_cases c20 : (x8_2.length : Int) = 5
     rotate_left
     ·rw [if_neg c20] at H
      have c20b0 : ((x8_2.length : Int) == 5) = false := beq_eq_false_iff_ne.mpr c20
      have c20b1 : ((x8_2.length : Int) != 5) = true := bne_iff_ne.mpr c20
      simp only [Option.some.injEq, Prod.mk.injEq] at H
      obtain ⟨rfl, rfl, rfl, rfl, rfl, rfl, rfl, rfl⟩ := H
      obtain ⟨Ao185, co185, eo185⟩ := Kd.R_slice HO_9.out
      subst eo185
      obtain ⟨Ao186, co186, eo186⟩ := Kd.R_slice HO_8.out
      subst eo186
      obtain ⟨hcz187_0, hcz187_1, hcz187_2, hcz187_3, hcz187_4, hcz187_5, hcz187_6⟩ := c7_ BK320.out
      obtain ⟨hfz187_0, hfz187_1, hfz187_2, hfz187_3, hfz187_4, hfz187_5, hfz187_6⟩ := f7_ BK320.out
      go_wp2
      refine bodyPost_ret (results_ct rfl _ _ gb320 24 #[.int .i64 0, .int .i64 0, .int .i64 0, .int .i64 0, .int .i64 0, .int .i64 0, .int .i64 0] (0, 0) _ rfl (by (with_reducible repeat (first | refine Bf ?_ _ | refine Bh ?_ | refine Bg ?_ _)); refine p7_ (show _ = some (Obj.cells #[.int .i64 0, .int .i64 0, .int .i64 0, .int .i64 0, .int .i64 0, .int .i64 0, .int .i64 0] _ (0, 0)) from ?_); (with_reducible repeat (first | refine Bf ?_ _ | refine Bh ?_ | refine Bg ?_ _)); exact BK320.out) Tryd.underlying24 rfl (by kernel_rfl)) rfl ?_
      exact ⟨by first | rfl | (simp [errW_none, errW_some] <;> rfl) | (simp [*, errW_none, errW_some] <;> rfl), by repeat (with_reducible first | exact HB.out | apply Be | apply Bc | apply Bd | refine Bs ?_ GE320.out)⟩
     rw [if_pos c20] at H
     have c20b0 : ((x8_2.length : Int) == 5) = true := beq_iff_eq.mpr c20
     have c20b1 : ((x8_2.length : Int) != 5) = false := bne_eq_false_iff_eq.mpr c20
     clear c20
     by_cases c21 : 0 < (x8_2.length : Int)
     rotate_left
     ·rw [if_neg c21] at H
      exact absurd H (by simp)
     rw [if_pos c21] at H
     have c21b0 : decide (0 < (x8_2.length : Int)) = true := decide_eq_true c21
     have c21b1 : decide (0 < x8_2.length) = true := decide_eq_true (by omega)
     clear c21; replace H := bI.mp H
     obtain ⟨⟨t339, t340⟩, A220, H⟩ := H
     (try dsimp only at H)
     have A22 := aM A220; clear A220
     have H' := aM H
     clear H
     obtain ⟨Ao23, co23, eo23⟩ := Kd.R_slice HO_9.out
     subst eo23
     obtain ⟨Ao24, co24, eo24⟩ := Kd.R_slice HO_8.out
     subst eo24
     go_wp2_with (first | ((with_reducible refine gate_dst (N := 11) rfl ?_); refine box_event ?hg (N := 11) ?hd (cs := #[.int .i64 0, .int .i64 0, .int .i64 0, .int .i64 0, .int .i64 0, .int .i64 0, .int .i64 0]) (t := 24) ?hr ?_; (case hd => rfl); (case hg => rfl); (case hr => first | (go_simp; done) | (go_simp; rfl)); intro gb337 hg w25 hbox hb; have n0_ := aM (Kd.R_below (by (with_reducible repeat (first | apply Kd.R_alloc | apply Kd.R_drewN | apply Kd.R_drew)); exact HO_8.out) hb); have n1_ := aM (Kd.R_below (by (with_reducible repeat (first | apply Kd.R_alloc | apply Kd.R_drewN | apply Kd.R_drew)); exact HO_9.out) hb); have n2_ := aM (blk_below (by (with_reducible repeat (first | refine Bf ?_ _ | refine Bh ?_ | refine Bg ?_ _)); exact BK320.out) hb); have n3_ := aM (below_step (by repeat (with_reducible first | exact HB.out | apply Be | apply Bc | apply Bd | refine Bs ?_ GE320.out)) hb); have n4_ := aM (hbox); have n5_ := aM ((by rw [hg]; exact (below_size (by repeat (with_reducible first | exact HB.out | apply Be | apply Bc | apply Bd | refine Bs ?_ GE320.out))) : w.heap.size ≤ gb337)); have n6_ := n5_; have n7_ := aM ((by rw [hg]; exact Nat.ne_of_lt (blk_lt (by (with_reducible repeat (first | refine Bf ?_ _ | refine Bh ?_ | refine Bg ?_ _)); exact BK320.out)) : gb320 ≠ gb337)); have n8_ := aM ((by rw [hg]; exact Nat.ne_of_gt (blk_lt (by (with_reducible repeat (first | refine Bf ?_ _ | refine Bh ?_ | refine Bg ?_ _)); exact BK320.out)) : gb337 ≠ gb320)); clear HO_8; clear HO_9; clear BK320; clear HB; have HO_8 := n0_; have HO_9 := n1_; have BK320 := n2_; have HB := n3_; have BK337 := n4_; have GW337 := n5_; have GE337 := n6_; have NB320_337 := n7_; have NB337_320 := n8_; clear n0_ n1_ n2_ n3_ n4_ n5_ n6_ n7_ n8_; clear hb hbox hg; have hnb26 := NB337_320.out; have hnc26 := NB320_337.out; obtain ⟨hcz27_0, hcz27_1, hcz27_2, hcz27_3, hcz27_4, hcz27_5, hcz27_6⟩ := c7_ BK337.out; obtain ⟨hfz27_0, hfz27_1, hfz27_2, hfz27_3, hfz27_4, hfz27_5, hfz27_6⟩ := f7_ BK337.out; have p338 : 0 ≤ (0 : Int) := (by omega); have q338 : 0 < (x8_2.length : Int) := of_decide_eq_true (by first | (with_reducible assumption) | assumption); obtain ⟨ad338, e338, hx338_0⟩ := Kd.at_string (Kd.R_reads' HO_8.out).2.2 0 p338 q338; cases e338; have qi338 : (0 < x8_2.length) = True := eq_true (by omega); (try rw [show ((0 : Int)).toNat = 0 from rfl] at hx338_0); (try rw [Addr.add_zero'] at hx338_0); have hn338_0 : ad338.block ≠ gb337 := Kd.own_blk (Kd.R_ne HO_8.out BK337.out (by decide)); have hn338_1 : ad338.block ≠ gb337 := Kd.own_blk (Kd.R_ne HO_8.out BK337.out (by decide)); have hn338_2 : ad338.block ≠ gb337 := Kd.own_blk (Kd.R_ne HO_8.out BK337.out (by decide)); have hn338_3 : ad338.block ≠ gb337 := Kd.own_blk (Kd.R_ne HO_8.out BK337.out (by decide)); have hn338_4 : ad338.block ≠ gb337 := Kd.own_blk (Kd.R_ne HO_8.out BK337.out (by decide)); have hn338_5 : ad338.block ≠ gb337 := Kd.own_blk (Kd.R_ne HO_8.out BK337.out (by decide)); have hn338_6 : ad338.block ≠ gb337 := Kd.own_blk (Kd.R_ne HO_8.out BK337.out (by decide)); replace hx338_0 := (cell_far (p := ⟨gb337, 0, none⟩) (by first | (rw [add_block]; exact hn338_0) | (show (Addr.add _ _).block ≠ _; rw [add_block]; exact hn338_0) | exact hn338_0) (.int .i64 0)).trans hx338_0; replace hx338_0 := (cell_far (p := ⟨gb337, 1, none⟩) (by first | (rw [add_block]; exact hn338_1) | (show (Addr.add _ _).block ≠ _; rw [add_block]; exact hn338_1) | exact hn338_1) (.int .i64 0)).trans hx338_0; replace hx338_0 := (cell_far (p := ⟨gb337, 2, none⟩) (by first | (rw [add_block]; exact hn338_2) | (show (Addr.add _ _).block ≠ _; rw [add_block]; exact hn338_2) | exact hn338_2) (.int .i64 0)).trans hx338_0; replace hx338_0 := (cell_far (p := ⟨gb337, 3, none⟩) (by first | (rw [add_block]; exact hn338_3) | (show (Addr.add _ _).block ≠ _; rw [add_block]; exact hn338_3) | exact hn338_3) (.int .i64 0)).trans hx338_0; replace hx338_0 := (cell_far (p := ⟨gb337, 4, none⟩) (by first | (rw [add_block]; exact hn338_4) | (show (Addr.add _ _).block ≠ _; rw [add_block]; exact hn338_4) | exact hn338_4) (.int .i64 0)).trans hx338_0; replace hx338_0 := (cell_far (p := ⟨gb337, 5, none⟩) (by first | (rw [add_block]; exact hn338_5) | (show (Addr.add _ _).block ≠ _; rw [add_block]; exact hn338_5) | exact hn338_5) (.int .i64 0)).trans hx338_0; replace hx338_0 := (cell_far (p := ⟨gb337, 6, none⟩) (by first | (rw [add_block]; exact hn338_6) | (show (Addr.add _ _).block ≠ _; rw [add_block]; exact hn338_6) | exact hn338_6) (.int .i64 0)).trans hx338_0; clear hn338_0; clear hn338_1; clear hn338_2; clear hn338_3; clear hn338_4; clear hn338_5; clear hn338_6; replace p338 := eq_true p338; replace q338 := eq_true q338) | ((with_reducible refine gate_callee (f := 44) rfl ?_); refine goesL_ (some 64) rfl rfl Tryd.func44 (by kernel_rfl) rfl #[.string (rdOf ByteArray.empty x8_2 0), .int .i64 1, .int .i64 2] rfl (by (try simp only [mT, mC, mN]) <;> rfl) ?_; (with_reducible refine (spec_l4Digits.calls k2 (rdOf ByteArray.empty x8_2 0) 1 2 t339 t340 _ A22.out).mono ?_); rintro e w' ⟨rfl, ⟨nd, rfl⟩⟩; refine ⟨_, rfl, ?_⟩))
     go_loopg [14] k2 (fun kq v14 w' => ∃ (x14_3 : Int) (x338001_3 : Int), v14 = .int .i64 x14_3 ∧ Aside0 (spec_ParseDate.l1 kq x4_4 t324 x8_2 t340 x14_3 0 x338001_3 t339 0 0 0 0 = some (r1, r2, r3, r4, r5, r6, r7, r8)) ∧ Aside0 (kq ≤ k2) ∧ Aside0 (Kd.R Kd.string 9 w' w.heap.size (fun _ => True) (.slice (some ad338) x8_2.length co24) x8_2) ∧ Aside0 (w'.heap[gb320]? = some (.cells #[.int .i64 0, .int .i64 0, .int .i64 0, .int .i64 0, .int .i64 0, .int .i64 0, .int .i64 0] 24 (0, 0))) ∧ Aside0 (w'.heap[gb337]? = some (.cells #[.int .i64 0, .int .i64 x338001_3, .int .i64 t339, .int .i64 0, .int .i64 0, .int .i64 0, .int .i64 0] 24 (0, 0))) ∧ Aside0 (Below w.heap.size w w'))
     case atStart => exact ⟨(0), (0), (by first | rfl | (simp; done) | (simp [*]; done)), H', ⟨Nat.le_refl _⟩, ⟨by (with_reducible repeat (first | apply Kd.R_alloc | apply Kd.R_drewN | apply Kd.R_drew)); exact Kd.R_mono (Kd.R_far (p := ⟨gb337, 2, none⟩) (Kd.R_drewN (Kd.R_far (p := ⟨gb337, 6, none⟩) (Kd.R_far (p := ⟨gb337, 5, none⟩) (Kd.R_far (p := ⟨gb337, 4, none⟩) (Kd.R_far (p := ⟨gb337, 3, none⟩) (Kd.R_far (p := ⟨gb337, 2, none⟩) (Kd.R_far (p := ⟨gb337, 1, none⟩) (Kd.R_far (p := ⟨gb337, 0, none⟩) (Kd.R_types HO_8.out BK337.out (by decide)) (fun _ hk => hk.2) (.int .i64 0)) (fun _ hk => hk.2) (.int .i64 0)) (fun _ hk => hk.2) (.int .i64 0)) (fun _ hk => hk.2) (.int .i64 0)) (fun _ hk => hk.2) (.int .i64 0)) (fun _ hk => hk.2) (.int .i64 0)) (fun _ hk => hk.2) (.int .i64 0)) _) (fun _ hk => hk.2) (.int .i64 t339)) (fun _ hk => trivial)⟩, ⟨by (with_reducible repeat (first | refine Bf ?_ _ | refine Bh ?_ | refine Bg ?_ _)); refine blk_far ?_ NB320_337.out _; (with_reducible repeat (first | refine Bf ?_ _ | refine Bh ?_ | refine Bg ?_ _)); refine blk_far ?_ NB320_337.out _; (with_reducible repeat (first | refine Bf ?_ _ | refine Bh ?_ | refine Bg ?_ _)); refine blk_far ?_ NB320_337.out _; (with_reducible repeat (first | refine Bf ?_ _ | refine Bh ?_ | refine Bg ?_ _)); refine blk_far ?_ NB320_337.out _; (with_reducible repeat (first | refine Bf ?_ _ | refine Bh ?_ | refine Bg ?_ _)); refine blk_far ?_ NB320_337.out _; (with_reducible repeat (first | refine Bf ?_ _ | refine Bh ?_ | refine Bg ?_ _)); refine blk_far ?_ NB320_337.out _; (with_reducible repeat (first | refine Bf ?_ _ | refine Bh ?_ | refine Bg ?_ _)); refine blk_far ?_ NB320_337.out _; (with_reducible repeat (first | refine Bf ?_ _ | refine Bh ?_ | refine Bg ?_ _)); refine blk_far ?_ NB320_337.out _; (with_reducible repeat (first | refine Bf ?_ _ | refine Bh ?_ | refine Bg ?_ _)); exact BK320.out⟩, ⟨by (with_reducible repeat (first | refine Bf ?_ _ | refine Bh ?_ | refine Bg ?_ _)); refine blk_put (cs := #[.int .i64 0, .int .i64 0, .int .i64 0, .int .i64 0, .int .i64 0, .int .i64 0, .int .i64 0]) ?_ 2 _ rfl; (with_reducible repeat (first | refine Bf ?_ _ | refine Bh ?_ | refine Bg ?_ _)); refine p7_ (show _ = some (Obj.cells #[.int .i64 0, .int .i64 0, .int .i64 0, .int .i64 0, .int .i64 0, .int .i64 0, .int .i64 0] _ (0, 0)) from ?_); (with_reducible repeat (first | refine Bf ?_ _ | refine Bh ?_ | refine Bg ?_ _)); exact BK337.out⟩, ⟨by repeat (with_reducible first | exact HB.out | apply Be | apply Bc | apply Bd | refine Bs ?_ GE320.out | refine Bs ?_ GE337.out)⟩⟩
     case round =>
      clear H'
      try clear c1
      try clear c2
      try clear p2
      try clear c3
      try clear p3
      try clear q3
      try clear hx3
      try clear qi3
      try clear c4
      try clear p6
      try clear c7
      try clear c13
      try clear c13b0
      try clear c14
      try clear c14b0
      try clear c15
      try clear c15b0
      try clear c15b1
      try clear c17
      try clear c20
      try clear c20b0
      try clear c20b1
      try clear c21
      try clear c21b0
      try clear c21b1
      try clear c26
      try clear hcz27_0 hcz27_1 hcz27_2 hcz27_3 hcz27_4 hcz27_5 hcz27_6
      try clear hfz27_0 hfz27_1 hfz27_2 hfz27_3 hfz27_4 hfz27_5 hfz27_6
      try clear hx332_0
      try clear hx333_0
      try clear hx338_0
      try clear p2
      try clear p332
      try clear p333
      try clear p338
      try clear q332
      try clear q333
      try clear q338
      obtain ⟨x14_3, x338001_3, rfl, HA, HK3, HO_8, BK320, BK337, HB⟩ := hrel
      cases gk with
      | zero => exact absurd HA.out (by simp [spec_ParseDate.l1])
      | succ k3 =>
       have H := HA.out; clear HA
       simp only [spec_ParseDate.l1] at H
       by_cases c28 : x14_3 < 12
       ·rw [if_pos c28] at H
        have c28b0 : decide (x14_3 < 12) = true := decide_eq_true c28
        clear c28
        by_cases c29 : 1 < (x8_2.length : Int)
        rotate_left
        ·rw [if_neg c29] at H
         exact absurd H (by simp)
        rw [if_pos c29] at H
        have c29b0 : decide (1 < (x8_2.length : Int)) = true := decide_eq_true c29
        have c29b1 : decide (1 < x8_2.length) = true := decide_eq_true (by omega)
        clear c29; replace H := bI.mp H
        obtain ⟨t342, A300, H⟩ := H
        (try dsimp only at H)
        have A30 := aM A300; clear A300
        by_cases c31 : 0 ≤ x14_3
        rotate_left
        ·rw [if_neg c31] at H
         exact absurd H (by simp)
        rw [if_pos c31] at H
        have c31b0 : decide (0 ≤ x14_3) = true := decide_eq_true c31
        clear c31
        by_cases c32 : x14_3 < (t342.length : Int)
        rotate_left
        ·rw [if_neg c32] at H
         exact absurd H (by simp)
        rw [if_pos c32] at H
        have c32b0 : decide (x14_3 < (t342.length : Int)) = true := decide_eq_true c32
        clear c32; replace H := bI.mp H
        obtain ⟨t346, A330, H⟩ := H
        (try dsimp only at H)
        have A33 := aM A330; clear A330
        by_cases c34 : t346 = true
        ·subst c34
         rw [if_pos rfl] at H
         have H' := aM H
         clear H
         try go_wp2
         have n0_ := aM (Kd.R_drew HO_8.out); have n1_ := aM (Bh BK320.out); have n2_ := aM (Bh BK337.out); have n3_ := aM (Bd HB.out); clear HO_8; clear BK320; clear BK337; clear HB; have HO_8 := n0_; have BK320 := n1_; have BK337 := n2_; have HB := n3_; clear n0_ n1_ n2_ n3_
         have p341 : 0 ≤ (1 : Int) := (by omega)
         have q341 : 1 < (x8_2.length : Int) := of_decide_eq_true (by first | (with_reducible assumption) | assumption)
         (try (obtain ⟨Ay_, cy_, ey_⟩ := Kd.R_slice HO_8.out; subst ey_))
         obtain ⟨ad341, e341, hx341_0⟩ := Kd.at_string (Kd.R_reads' HO_8.out).2.2 1 p341 q341
         obtain rfl : ad338 = ad341 := (by injection e341)
         (try simp only [show (1 : Int).toNat = 1 from rfl, Nat.reduceMul, Nat.reduceEqDiff, Go.Addr.add, ↓reduceIte] at hx341_0)
         have qi341 : (1 < x8_2.length) = True := eq_true (by omega)
         (try rw [show ((1 : Int)).toNat = 1 from rfl] at hx341_0)
         replace p341 := eq_true p341; replace q341 := eq_true q341
         refine start_ (n := 8) (S := fun w' => w'.cell? ⟨ad338.block, ad338.off + 1, none⟩ = some (.string (rdOf ByteArray.empty x8_2 1))) (ds := []) #[X,X,X,X,X,X,X,X] (by kernel_rfl) rfl rfl hx341_0 (fun hHeld => ?_); refine with_tabW spec_ParseDate.tab23 spec_ParseDate.bits23 (fun HT_ HW_ => ?_)
         generalize wr.drew = w35 at HO_8 BK320 BK337 HB hx341_0 hHeld ⊢
         refine ord_ 8 [(0,73,1),(1,74,3),(4,77,19),(2,75,23)] ?_
         iterate 4 (first | (refine st_ (v := ?_) (a' := ?_) HT_ HW_ rfl rfl (by kernel_rfl) (fun _ _ _ h => h) (Or.inl ⟨by rfl, ?_⟩) hHeld ?_ ?_; rotate_left; (·rintro w' s0; go_simp; (with_reducible rfl)); rotate_left; (·simp only [Act.put, sA, sZ, sS, i64_w, i32_w]; rfl)) | (refine sp_ (v := ?_) (a' := ?_) HT_ rfl rfl (by kernel_rfl) (fun _ _ _ h => h) (Or.inl ⟨by rfl, ?_⟩) ?_ ?_; rotate_left; (·intro w'; go_simp; (with_reducible rfl)); rotate_left; (·simp only [Act.put, sA, sZ, sS, i64_w, i32_w]; rfl)))
         refine one_ (i := 3) (N := some 76) (mb 8 31) rfl rfl (one_of HT_.out (by kernel_rfl)) (by decide) (fun K hK => ?_)
         refine goes_ Tryd.func25 (by kernel_rfl) rfl #[] (by rfl) rfl rfl (by (try simp only [mT, mC, mN]) <;> rfl) ?_
         with_reducible refine (spec_l4Months.calls  t342 _ A30.out).mono ?_
         rintro e w36 ⟨v343, rfl, ho0, hb⟩
         have HS0_ := (hb.cell (World.block_lt_of_cell? _ _ (hHeld))).trans (hHeld)
         refine ⟨_, rfl, ?_⟩
         have n0_ := aM (Kd.R_elder' (by (with_reducible repeat (first | apply Kd.R_alloc | apply Kd.R_drewN | apply Kd.R_drew)); exact HO_8.out) (Kd.R_base ho0) hb); have n1_ := aM (Kd.R_lower (Kd.R_new' ho0 (Kd.R_lt (by (with_reducible repeat (first | apply Kd.R_alloc | apply Kd.R_drewN | apply Kd.R_drew)); exact HO_8.out))) (below_size (by repeat (with_reducible first | exact HB.out | apply Be | apply Bc | apply Bd | refine Bs ?_ GE320.out | refine Bs ?_ GE337.out)))); have n2_ := aM (blk_below (by (with_reducible repeat (first | refine Bf ?_ _ | refine Bh ?_ | refine Bg ?_ _)); exact BK320.out) hb); have n3_ := aM (blk_below (by (with_reducible repeat (first | refine Bf ?_ _ | refine Bh ?_ | refine Bg ?_ _)); exact BK337.out) hb); have n4_ := aM (below_step (by repeat (with_reducible first | exact HB.out | apply Be | apply Bc | apply Bd | refine Bs ?_ GE320.out | refine Bs ?_ GE337.out)) hb); clear HO_8; clear BK320; clear BK337; clear HB; have HO_8 := n0_; have HO344 := n1_; have BK320 := n2_; have BK337 := n3_; have HB := n4_; clear n0_ n1_ n2_ n3_ n4_
         (try clear hb)
         (try clear hb2)
         (try clear hk)
         (try clear hi)
         (try clear ho0)
         obtain ⟨Ao37, co37, eo37⟩ := Kd.R_slice HO344.out
         (first | subst eo37 | (injection eo37 with f1_ f2_ f3_; have f4_ := f1_.symm; have f5_ := f3_.symm; clear f1_ f2_ f3_; subst f4_; subst f5_))
         have p345 : 0 ≤ (x14_3 : Int) := of_decide_eq_true (by first | (with_reducible assumption) | assumption)
         have q345 : x14_3 < (t342.length : Int) := of_decide_eq_true (by first | (with_reducible assumption) | assumption)
         (try (obtain ⟨Ay_, cy_, ey_⟩ := Kd.R_slice HO344.out; subst ey_))
         obtain ⟨ad345, e345, hx345_0⟩ := Kd.at_string (Kd.R_reads' HO344.out).2.2 x14_3 p345 q345
         cases e345
         replace p345 := eq_true p345; replace q345 := eq_true q345
         refine hK.out _ _ HS0_ (fun hHeld0_ => ?_)
         clear hK K
         refine mor7_ (S' := fun w' => w'.cell? ⟨ad338.block, ad338.off + 1, none⟩ = some (.string (rdOf ByteArray.empty x8_2 1)) ∧ w'.cell? (ad345.add (x14_3).toNat) = some (.string (rdOf ByteArray.empty t342 x14_3))) (fun _ h_ => h_.1) _ _ _ _ ⟨HS0_, hx345_0⟩ (fun hHeld => ?_)
         clear hHeld0_
         refine norm_ (a' := ?_) ?_ ?_
         rotate_left
         ·show Act.put _ (some 76) _ = _
          simp only [Act.put, sA, sZ, sS, i64_w, i32_w]
          rfl
         refine ord_ 8 [(5,78,63),(6,79,127)] ?_
         iterate 2 (first | (refine st_ (v := ?_) (a' := ?_) HT_ HW_ rfl rfl (by kernel_rfl) (fun _ _ _ h => h) (Or.inl ⟨by rfl, ?_⟩) hHeld ?_ ?_; rotate_left; (·rintro w' ⟨s0, s1⟩; go_simp; (with_reducible rfl)); rotate_left; (·simp only [Act.put, sA, sZ, sS, i64_w, i32_w]; rfl)) | (refine sp_ (v := ?_) (a' := ?_) HT_ rfl rfl (by kernel_rfl) (fun _ _ _ h => h) (Or.inl ⟨by rfl, ?_⟩) ?_ ?_; rotate_left; (·intro w'; go_simp; (with_reducible rfl)); rotate_left; (·simp only [Act.put, sA, sZ, sS, i64_w, i32_w]; rfl)))
         refine one_ (i := 7) (N := some 80) (mb 8 255) rfl rfl (one_of HT_.out (by kernel_rfl)) (by decide) (fun K hK => ?_)
         refine goes_ Tryd.func45 (by kernel_rfl) rfl #[.string (rdOf ByteArray.empty x8_2 1), .string (rdOf ByteArray.empty t342 x14_3)] (by rfl) rfl rfl (by (try simp only [mT, mC, mN]) <;> rfl) ?_
         with_reducible refine (spec_SameText.calls (rdOf ByteArray.empty x8_2 1) (rdOf ByteArray.empty t342 x14_3) true _ A33.out).mono ?_
         rintro e w38 ⟨rfl, hb⟩
         have HS0_ := (hb.cell (World.block_lt_of_cell? _ _ (hHeld.1))).trans (hHeld.1); have HS1_ := (hb.cell (World.block_lt_of_cell? _ _ (hHeld.2))).trans (hHeld.2)
         refine ⟨_, rfl, ?_⟩
         have n0_ := aM (Kd.R_below (by (with_reducible repeat (first | apply Kd.R_alloc | apply Kd.R_drewN | apply Kd.R_drew)); exact HO_8.out) hb); have n1_ := aM (Kd.R_below (by (with_reducible repeat (first | apply Kd.R_alloc | apply Kd.R_drewN | apply Kd.R_drew)); exact HO344.out) hb); have n2_ := aM (blk_below (by (with_reducible repeat (first | refine Bf ?_ _ | refine Bh ?_ | refine Bg ?_ _)); exact BK320.out) hb); have n3_ := aM (blk_below (by (with_reducible repeat (first | refine Bf ?_ _ | refine Bh ?_ | refine Bg ?_ _)); exact BK337.out) hb); have n4_ := aM (below_step (by repeat (with_reducible first | exact HB.out | apply Be | apply Bc | apply Bd | refine Bs ?_ GE320.out | refine Bs ?_ GE337.out)) hb); clear HO_8; clear HO344; clear BK320; clear BK337; clear HB; have HO_8 := n0_; have HO344 := n1_; have BK320 := n2_; have BK337 := n3_; have HB := n4_; clear n0_ n1_ n2_ n3_ n4_
         (try clear hb)
         (try clear hb2)
         (try clear hk)
         (try clear hi)
         refine hK.out _ _ ⟨HS0_, HS1_⟩ (fun hHeld => ?_)
         clear hK K
         refine norm_ (a' := ?_) ?_ ?_
         rotate_left
         ·show Act.put _ (some 80) _ = _
          simp only [Act.put, sA, sZ, sS, i64_w, i32_w]
          rfl
         refine done_ (done_of HT_.out (by kernel_rfl)) ?_
         have hnb39 := NB337_320.out; have hnc39 := NB320_337.out
         obtain ⟨hcz40_0, hcz40_1, hcz40_2, hcz40_3, hcz40_4, hcz40_5, hcz40_6⟩ := c7_ BK337.out
         obtain ⟨hfz40_0, hfz40_1, hfz40_2, hfz40_3, hfz40_4, hfz40_5, hfz40_6⟩ := f7_ BK337.out
         try go_wp2
         go_roundg k3
         case measure => have := HJ4.out; have := HK2.out; have := HK3.out; omega
         case rel => exact ⟨(wrap64 (x14_3 + 1)), (wrap64 (x14_3 + 1)), (by first | rfl | (simp; done) | (simp [*]; done)), H', ⟨by have := HJ4.out; have := HK2.out; have := HK3.out; omega⟩, ⟨by (with_reducible repeat (first | apply Kd.R_alloc | apply Kd.R_drewN | apply Kd.R_drew)); exact Kd.R_mono (Kd.R_far (p := ⟨gb337, 1, none⟩) (Kd.R_types HO_8.out BK337.out (by decide)) (fun _ hk => hk.2) (.int .i64 (wrap64 (x14_3 + 1)))) (fun _ hk => trivial)⟩, ⟨by (with_reducible repeat (first | refine Bf ?_ _ | refine Bh ?_ | refine Bg ?_ _)); refine blk_far ?_ NB320_337.out _; (with_reducible repeat (first | refine Bf ?_ _ | refine Bh ?_ | refine Bg ?_ _)); exact BK320.out⟩, ⟨by (with_reducible repeat (first | refine Bf ?_ _ | refine Bh ?_ | refine Bg ?_ _)); refine blk_put (cs := #[.int .i64 0, .int .i64 x338001_3, .int .i64 t339, .int .i64 0, .int .i64 0, .int .i64 0, .int .i64 0]) ?_ 1 _ rfl; (with_reducible repeat (first | refine Bf ?_ _ | refine Bh ?_ | refine Bg ?_ _)); exact BK337.out⟩, ⟨by repeat (with_reducible first | exact HB.out | apply Be | apply Bc | apply Bd | refine Bs ?_ GE320.out | refine Bs ?_ GE337.out)⟩⟩
        replace c34 := Bool.eq_false_iff.mpr c34
        subst c34
        rw [if_neg (show ¬ (false = true) by decide)] at H
        have H' := aM H
        clear H
        try go_wp2
        have n0_ := aM (Kd.R_drew HO_8.out); have n1_ := aM (Bh BK320.out); have n2_ := aM (Bh BK337.out); have n3_ := aM (Bd HB.out); clear HO_8; clear BK320; clear BK337; clear HB; have HO_8 := n0_; have BK320 := n1_; have BK337 := n2_; have HB := n3_; clear n0_ n1_ n2_ n3_
        have p341 : 0 ≤ (1 : Int) := (by omega)
        have q341 : 1 < (x8_2.length : Int) := of_decide_eq_true (by first | (with_reducible assumption) | assumption)
        (try (obtain ⟨Ay_, cy_, ey_⟩ := Kd.R_slice HO_8.out; subst ey_))
        obtain ⟨ad341, e341, hx341_0⟩ := Kd.at_string (Kd.R_reads' HO_8.out).2.2 1 p341 q341
        obtain rfl : ad338 = ad341 := (by injection e341)
        (try simp only [show (1 : Int).toNat = 1 from rfl, Nat.reduceMul, Nat.reduceEqDiff, Go.Addr.add, ↓reduceIte] at hx341_0)
        have qi341 : (1 < x8_2.length) = True := eq_true (by omega)
        (try rw [show ((1 : Int)).toNat = 1 from rfl] at hx341_0)
        replace p341 := eq_true p341; replace q341 := eq_true q341
        refine start_ (n := 8) (S := fun w' => w'.cell? ⟨ad338.block, ad338.off + 1, none⟩ = some (.string (rdOf ByteArray.empty x8_2 1))) (ds := []) #[X,X,X,X,X,X,X,X] (by kernel_rfl) rfl rfl hx341_0 (fun hHeld => ?_); refine with_tabW spec_ParseDate.tab23 spec_ParseDate.bits23 (fun HT_ HW_ => ?_)
        generalize wr.drew = w41 at HO_8 BK320 BK337 HB hx341_0 hHeld ⊢
        refine ord_ 8 [(0,73,1),(1,74,3),(4,77,19),(2,75,23)] ?_
        iterate 4 (first | (refine st_ (v := ?_) (a' := ?_) HT_ HW_ rfl rfl (by kernel_rfl) (fun _ _ _ h => h) (Or.inl ⟨by rfl, ?_⟩) hHeld ?_ ?_; rotate_left; (·rintro w' s0; go_simp; (with_reducible rfl)); rotate_left; (·simp only [Act.put, sA, sZ, sS, i64_w, i32_w]; rfl)) | (refine sp_ (v := ?_) (a' := ?_) HT_ rfl rfl (by kernel_rfl) (fun _ _ _ h => h) (Or.inl ⟨by rfl, ?_⟩) ?_ ?_; rotate_left; (·intro w'; go_simp; (with_reducible rfl)); rotate_left; (·simp only [Act.put, sA, sZ, sS, i64_w, i32_w]; rfl)))
        refine one_ (i := 3) (N := some 76) (mb 8 31) rfl rfl (one_of HT_.out (by kernel_rfl)) (by decide) (fun K hK => ?_)
        refine goes_ Tryd.func25 (by kernel_rfl) rfl #[] (by rfl) rfl rfl (by (try simp only [mT, mC, mN]) <;> rfl) ?_
        with_reducible refine (spec_l4Months.calls  t342 _ A30.out).mono ?_
        rintro e w42 ⟨v343, rfl, ho0, hb⟩
        have HS0_ := (hb.cell (World.block_lt_of_cell? _ _ (hHeld))).trans (hHeld)
        refine ⟨_, rfl, ?_⟩
        have n0_ := aM (Kd.R_elder' (by (with_reducible repeat (first | apply Kd.R_alloc | apply Kd.R_drewN | apply Kd.R_drew)); exact HO_8.out) (Kd.R_base ho0) hb); have n1_ := aM (Kd.R_lower (Kd.R_new' ho0 (Kd.R_lt (by (with_reducible repeat (first | apply Kd.R_alloc | apply Kd.R_drewN | apply Kd.R_drew)); exact HO_8.out))) (below_size (by repeat (with_reducible first | exact HB.out | apply Be | apply Bc | apply Bd | refine Bs ?_ GE320.out | refine Bs ?_ GE337.out)))); have n2_ := aM (blk_below (by (with_reducible repeat (first | refine Bf ?_ _ | refine Bh ?_ | refine Bg ?_ _)); exact BK320.out) hb); have n3_ := aM (blk_below (by (with_reducible repeat (first | refine Bf ?_ _ | refine Bh ?_ | refine Bg ?_ _)); exact BK337.out) hb); have n4_ := aM (below_step (by repeat (with_reducible first | exact HB.out | apply Be | apply Bc | apply Bd | refine Bs ?_ GE320.out | refine Bs ?_ GE337.out)) hb); clear HO_8; clear BK320; clear BK337; clear HB; have HO_8 := n0_; have HO344 := n1_; have BK320 := n2_; have BK337 := n3_; have HB := n4_; clear n0_ n1_ n2_ n3_ n4_
        (try clear hb)
        (try clear hb2)
        (try clear hk)
        (try clear hi)
        (try clear ho0)
        obtain ⟨Ao43, co43, eo43⟩ := Kd.R_slice HO344.out
        (first | subst eo43 | (injection eo43 with f1_ f2_ f3_; have f4_ := f1_.symm; have f5_ := f3_.symm; clear f1_ f2_ f3_; subst f4_; subst f5_))
        have p345 : 0 ≤ (x14_3 : Int) := of_decide_eq_true (by first | (with_reducible assumption) | assumption)
        have q345 : x14_3 < (t342.length : Int) := of_decide_eq_true (by first | (with_reducible assumption) | assumption)
        (try (obtain ⟨Ay_, cy_, ey_⟩ := Kd.R_slice HO344.out; subst ey_))
        obtain ⟨ad345, e345, hx345_0⟩ := Kd.at_string (Kd.R_reads' HO344.out).2.2 x14_3 p345 q345
        cases e345
        replace p345 := eq_true p345; replace q345 := eq_true q345
        refine hK.out _ _ HS0_ (fun hHeld0_ => ?_)
        clear hK K
        refine mor7_ (S' := fun w' => w'.cell? ⟨ad338.block, ad338.off + 1, none⟩ = some (.string (rdOf ByteArray.empty x8_2 1)) ∧ w'.cell? (ad345.add (x14_3).toNat) = some (.string (rdOf ByteArray.empty t342 x14_3))) (fun _ h_ => h_.1) _ _ _ _ ⟨HS0_, hx345_0⟩ (fun hHeld => ?_)
        clear hHeld0_
        refine norm_ (a' := ?_) ?_ ?_
        rotate_left
        ·show Act.put _ (some 76) _ = _
         simp only [Act.put, sA, sZ, sS, i64_w, i32_w]
         rfl
        refine ord_ 8 [(5,78,63),(6,79,127)] ?_
        iterate 2 (first | (refine st_ (v := ?_) (a' := ?_) HT_ HW_ rfl rfl (by kernel_rfl) (fun _ _ _ h => h) (Or.inl ⟨by rfl, ?_⟩) hHeld ?_ ?_; rotate_left; (·rintro w' ⟨s0, s1⟩; go_simp; (with_reducible rfl)); rotate_left; (·simp only [Act.put, sA, sZ, sS, i64_w, i32_w]; rfl)) | (refine sp_ (v := ?_) (a' := ?_) HT_ rfl rfl (by kernel_rfl) (fun _ _ _ h => h) (Or.inl ⟨by rfl, ?_⟩) ?_ ?_; rotate_left; (·intro w'; go_simp; (with_reducible rfl)); rotate_left; (·simp only [Act.put, sA, sZ, sS, i64_w, i32_w]; rfl)))
        refine one_ (i := 7) (N := some 80) (mb 8 255) rfl rfl (one_of HT_.out (by kernel_rfl)) (by decide) (fun K hK => ?_)
        refine goes_ Tryd.func45 (by kernel_rfl) rfl #[.string (rdOf ByteArray.empty x8_2 1), .string (rdOf ByteArray.empty t342 x14_3)] (by rfl) rfl rfl (by (try simp only [mT, mC, mN]) <;> rfl) ?_
        with_reducible refine (spec_SameText.calls (rdOf ByteArray.empty x8_2 1) (rdOf ByteArray.empty t342 x14_3) false _ A33.out).mono ?_
        rintro e w44 ⟨rfl, hb⟩
        have HS0_ := (hb.cell (World.block_lt_of_cell? _ _ (hHeld.1))).trans (hHeld.1); have HS1_ := (hb.cell (World.block_lt_of_cell? _ _ (hHeld.2))).trans (hHeld.2)
        refine ⟨_, rfl, ?_⟩
        have n0_ := aM (Kd.R_below (by (with_reducible repeat (first | apply Kd.R_alloc | apply Kd.R_drewN | apply Kd.R_drew)); exact HO_8.out) hb); have n1_ := aM (Kd.R_below (by (with_reducible repeat (first | apply Kd.R_alloc | apply Kd.R_drewN | apply Kd.R_drew)); exact HO344.out) hb); have n2_ := aM (blk_below (by (with_reducible repeat (first | refine Bf ?_ _ | refine Bh ?_ | refine Bg ?_ _)); exact BK320.out) hb); have n3_ := aM (blk_below (by (with_reducible repeat (first | refine Bf ?_ _ | refine Bh ?_ | refine Bg ?_ _)); exact BK337.out) hb); have n4_ := aM (below_step (by repeat (with_reducible first | exact HB.out | apply Be | apply Bc | apply Bd | refine Bs ?_ GE320.out | refine Bs ?_ GE337.out)) hb); clear HO_8; clear HO344; clear BK320; clear BK337; clear HB; have HO_8 := n0_; have HO344 := n1_; have BK320 := n2_; have BK337 := n3_; have HB := n4_; clear n0_ n1_ n2_ n3_ n4_
        (try clear hb)
        (try clear hb2)
        (try clear hk)
        (try clear hi)
        refine hK.out _ _ ⟨HS0_, HS1_⟩ (fun hHeld => ?_)
        clear hK K
        refine norm_ (a' := ?_) ?_ ?_
        rotate_left
        ·show Act.put _ (some 80) _ = _
         simp only [Act.put, sA, sZ, sS, i64_w, i32_w]
         rfl
        refine done_ (done_of HT_.out (by kernel_rfl)) ?_
        try go_wp2
        go_roundg k3
        case measure => have := HJ4.out; have := HK2.out; have := HK3.out; omega
        case rel => exact ⟨(wrap64 (x14_3 + 1)), (x338001_3), (by first | rfl | (simp; done) | (simp [*]; done)), H', ⟨by have := HJ4.out; have := HK2.out; have := HK3.out; omega⟩, ⟨by (with_reducible repeat (first | apply Kd.R_alloc | apply Kd.R_drewN | apply Kd.R_drew)); exact Kd.R_mono HO_8.out (fun _ hk => trivial)⟩, ⟨by (with_reducible repeat (first | refine Bf ?_ _ | refine Bh ?_ | refine Bg ?_ _)); exact BK320.out⟩, ⟨by (with_reducible repeat (first | refine Bf ?_ _ | refine Bh ?_ | refine Bg ?_ _)); exact BK337.out⟩, ⟨by repeat (with_reducible first | exact HB.out | apply Be | apply Bc | apply Bd | refine Bs ?_ GE320.out | refine Bs ?_ GE337.out)⟩⟩
       rw [if_neg c28] at H
       have c28b0 : decide (x14_3 < 12) = false := decide_eq_false c28
       clear c28
       by_cases c45 : 2 < (x8_2.length : Int)
       rotate_left
       ·rw [if_neg c45] at H
        exact absurd H (by simp)
       rw [if_pos c45] at H
       have c45b0 : decide (2 < (x8_2.length : Int)) = true := decide_eq_true c45
       have c45b1 : decide (2 < x8_2.length) = true := decide_eq_true (by omega)
       clear c45; replace H := bI.mp H
       obtain ⟨⟨t348, t349⟩, A460, H⟩ := H
       (try dsimp only at H)
       have A46 := aM A460; clear A460
       by_cases c47 : 3 < (x8_2.length : Int)
       rotate_left
       ·rw [if_neg c47] at H
        exact absurd H (by simp)
       rw [if_pos c47] at H
       have c47b0 : decide (3 < (x8_2.length : Int)) = true := decide_eq_true c47
       have c47b1 : decide (3 < x8_2.length) = true := decide_eq_true (by omega)
       clear c47; replace H := bI.mp H
       obtain ⟨⟨t351, t352, t353, t354, t355, t356, t357, t358⟩, A480, H⟩ := H
       (try dsimp only at H)
       have A48 := aM A480; clear A480
       by_cases c49 : 4 < (x8_2.length : Int)
       rotate_left
       ·rw [if_neg c49] at H
        exact absurd H (by simp)
       rw [if_pos c49] at H
       have c49b0 : decide (4 < (x8_2.length : Int)) = true := decide_eq_true c49
       have c49b1 : decide (4 < x8_2.length) = true := decide_eq_true (by omega)
       clear c49; replace H := bI.mp H
       obtain ⟨⟨t360, t361⟩, A500, H⟩ := H
       (try dsimp only at H)
       have A50 := aM A500; clear A500
       have HH := aM H; clear H
       have p347 : 0 ≤ (2 : Int) := (by omega)
       have q347 : 2 < (x8_2.length : Int) := of_decide_eq_true (by first | (with_reducible assumption) | assumption)
       (try (obtain ⟨Ay_, cy_, ey_⟩ := Kd.R_slice HO_8.out; subst ey_))
       obtain ⟨ad347, e347, hx347_0⟩ := Kd.at_string (Kd.R_reads' HO_8.out).2.2 2 p347 q347
       obtain rfl : ad338 = ad347 := (by injection e347)
       (try simp only [show (2 : Int).toNat = 2 from rfl, Nat.reduceMul, Nat.reduceEqDiff, Go.Addr.add, ↓reduceIte] at hx347_0)
       have qi347 : (2 < x8_2.length) = True := eq_true (by omega)
       (try rw [show ((2 : Int)).toNat = 2 from rfl] at hx347_0)
       replace p347 := eq_true p347; replace q347 := eq_true q347
       try go_wp2_with (first | ((with_reducible refine gate_callee (f := 44) rfl ?_); refine goesL_ (some 88) rfl rfl Tryd.func44 (by kernel_rfl) rfl #[.string (rdOf ByteArray.empty x8_2 2), .int .i64 4, .int .i64 4] rfl (by (try simp only [mT, mC, mN]) <;> rfl) ?_; (with_reducible refine (spec_l4Digits.calls k3 (rdOf ByteArray.empty x8_2 2) 4 4 t348 t349 _ A46.out).mono ?_); rintro e w' ⟨rfl, ⟨nd, rfl⟩⟩; refine ⟨_, rfl, ?_⟩; (try (rw [drewN_self wr]; generalize hq_ : World.drewN wr _ = wr; have n0_ : Aside0 (Kd.R Kd.string 9 wr w.heap.size (fun _ => True) (.slice (some ad338) x8_2.length co24) x8_2) := ⟨by rw [← hq_]; exact (by (with_reducible repeat (first | apply Kd.R_alloc | apply Kd.R_drewN | apply Kd.R_drew)); exact HO_8.out)⟩; have n1_ : Aside0 (wr.heap[gb320]? = some (.cells #[.int .i64 0, .int .i64 0, .int .i64 0, .int .i64 0, .int .i64 0, .int .i64 0, .int .i64 0] 24 (0, 0))) := ⟨by rw [← hq_]; exact (by (with_reducible repeat (first | refine Bf ?_ _ | refine Bh ?_ | refine Bg ?_ _)); exact BK320.out)⟩; have n2_ : Aside0 (wr.heap[gb337]? = some (.cells #[.int .i64 0, .int .i64 x338001_3, .int .i64 t339, .int .i64 0, .int .i64 0, .int .i64 0, .int .i64 0] 24 (0, 0))) := ⟨by rw [← hq_]; exact (by (with_reducible repeat (first | refine Bf ?_ _ | refine Bh ?_ | refine Bg ?_ _)); exact BK337.out)⟩; have n3_ : Aside0 (Below w.heap.size w wr) := ⟨by rw [← hq_]; exact (by repeat (with_reducible first | exact HB.out | apply Be | apply Bc | apply Bd | refine Bs ?_ GE320.out | refine Bs ?_ GE337.out))⟩; clear HO_8 BK320 BK337 HB hq_; have HO_8 := n0_; have BK320 := n1_; have BK337 := n2_; have HB := n3_; clear n0_ n1_ n2_ n3_)); have hnb61 := NB337_320.out; have hnc61 := NB320_337.out; obtain ⟨hcz62_0, hcz62_1, hcz62_2, hcz62_3, hcz62_4, hcz62_5, hcz62_6⟩ := c7_ BK337.out; obtain ⟨hfz62_0, hfz62_1, hfz62_2, hfz62_3, hfz62_4, hfz62_5, hfz62_6⟩ := f7_ BK337.out))
       have n0_ : Aside0 (Kd.R Kd.string 9 (wr.setCell ⟨gb337, 0, none⟩ (.int .i64 t348)) w.heap.size (fun _ => True) (.slice (some ad338) x8_2.length co24) x8_2) := ⟨by (with_reducible repeat (first | apply Kd.R_alloc | apply Kd.R_drewN | apply Kd.R_drew)); exact Kd.R_mono (Kd.R_far (p := ⟨gb337, 0, none⟩) (Kd.R_types HO_8.out BK337.out (by decide)) (fun _ hk => hk.2) (.int .i64 t348)) (fun _ hk => trivial)⟩
       have n1_ : Aside0 ((wr.setCell ⟨gb337, 0, none⟩ (.int .i64 t348)).heap[gb320]? = some (.cells #[.int .i64 0, .int .i64 0, .int .i64 0, .int .i64 0, .int .i64 0, .int .i64 0, .int .i64 0] 24 (0, 0))) := ⟨by (with_reducible repeat (first | refine Bf ?_ _ | refine Bh ?_ | refine Bg ?_ _)); refine blk_far ?_ NB320_337.out _; (with_reducible repeat (first | refine Bf ?_ _ | refine Bh ?_ | refine Bg ?_ _)); exact BK320.out⟩
       have n2_ : Aside0 ((wr.setCell ⟨gb337, 0, none⟩ (.int .i64 t348)).heap[gb337]? = some (.cells #[.int .i64 t348, .int .i64 x338001_3, .int .i64 t339, .int .i64 0, .int .i64 0, .int .i64 0, .int .i64 0] 24 (0, 0))) := ⟨by (with_reducible repeat (first | refine Bf ?_ _ | refine Bh ?_ | refine Bg ?_ _)); refine blk_put (cs := #[.int .i64 0, .int .i64 x338001_3, .int .i64 t339, .int .i64 0, .int .i64 0, .int .i64 0, .int .i64 0]) ?_ 0 _ rfl; (with_reducible repeat (first | refine Bf ?_ _ | refine Bh ?_ | refine Bg ?_ _)); exact BK337.out⟩
       have n3_ : Aside0 (Below w.heap.size w (wr.setCell ⟨gb337, 0, none⟩ (.int .i64 t348))) := ⟨by repeat (with_reducible first | exact HB.out | apply Be | apply Bc | apply Bd | refine Bs ?_ GE320.out | refine Bs ?_ GE337.out)⟩
       (try clear HO_8)
       (try clear BK320)
       (try clear BK337)
       (try clear HB)
       generalize (wr.setCell ⟨gb337, 0, none⟩ (.int .i64 t348)) = w63 at n0_ n1_ n2_ n3_ ⊢
       have HO_8 := n0_; have BK320 := n1_; have BK337 := n2_; have HB := n3_; clear n0_ n1_ n2_ n3_; have n0_ := aM (Kd.R_drew HO_8.out); have n1_ := aM (Bh BK320.out); have n2_ := aM (Bh BK337.out); have n3_ := aM (Bd HB.out); clear HO_8; clear BK320; clear BK337; clear HB; have HO_8 := n0_; have BK320 := n1_; have BK337 := n2_; have HB := n3_; clear n0_ n1_ n2_ n3_
       have p350 : 0 ≤ (3 : Int) := (by omega)
       have q350 : 3 < (x8_2.length : Int) := of_decide_eq_true (by first | (with_reducible assumption) | assumption)
       (try (obtain ⟨Ay_, cy_, ey_⟩ := Kd.R_slice HO_8.out; subst ey_))
       obtain ⟨ad350, e350, hx350_0⟩ := Kd.at_string (Kd.R_reads' HO_8.out).2.2 3 p350 q350
       obtain rfl : ad338 = ad350 := (by injection e350)
       (try simp only [show (3 : Int).toNat = 3 from rfl, Nat.reduceMul, Nat.reduceEqDiff, Go.Addr.add, ↓reduceIte] at hx350_0)
       have qi350 : (3 < x8_2.length) = True := eq_true (by omega)
       (try rw [show ((3 : Int)).toNat = 3 from rfl] at hx350_0)
       replace p350 := eq_true p350; replace q350 := eq_true q350
       refine start_ (n := 10) (S := fun w' => w'.cell? ⟨gb337, 0, none⟩ = some (.int .i64 t348) ∧ w'.cell? ⟨gb337, 1, none⟩ = some (.int .i64 x338001_3) ∧ w'.cell? ⟨gb337, 2, none⟩ = some (.int .i64 t339) ∧ w'.cell? ⟨gb337, 3, none⟩ = some (.int .i64 0) ∧ w'.cell? ⟨gb337, 4, none⟩ = some (.int .i64 0) ∧ w'.cell? ⟨gb337, 5, none⟩ = some (.int .i64 0) ∧ w'.cell? ⟨gb337, 6, none⟩ = some (.int .i64 0) ∧ w'.cell? ⟨ad338.block, ad338.off + 3, none⟩ = some (.string (rdOf ByteArray.empty x8_2 3))) (ds := [8]) #[X,X,X,X,X,X,X,X,X,X] (by kernel_rfl) rfl rfl ⟨(Ba BK337.out 0).trans rfl, (Ba BK337.out 1).trans rfl, (Ba BK337.out 2).trans rfl, (Ba BK337.out 3).trans rfl, (Ba BK337.out 4).trans rfl, (Ba BK337.out 5).trans rfl, (Ba BK337.out 6).trans rfl, hx350_0⟩ (fun hHeld => ?_); refine with_tabW spec_ParseDate.tab27 spec_ParseDate.bits27 (fun HT_ HW_ => ?_)
       generalize w63.drew = w64 at HO_8 BK320 BK337 HB hx350_0 hHeld ⊢
       refine ord_ 10 [(0,94,1),(1,95,3),(2,96,7),(3,97,15)] ?_
       iterate 4 (first | (refine st_ (v := ?_) (a' := ?_) HT_ HW_ rfl rfl (by kernel_rfl) (fun _ _ _ h => h) (Or.inl ⟨by rfl, ?_⟩) hHeld ?_ ?_; rotate_left; (·rintro w' ⟨s0, s1, s2, s3, s4, s5, s6, s7⟩; go_simp; (with_reducible rfl)); rotate_left; (·simp only [Act.put, sA, sZ, sS, i64_w, i32_w]; rfl)) | (refine sp_ (v := ?_) (a' := ?_) HT_ rfl rfl (by kernel_rfl) (fun _ _ _ h => h) (Or.inl ⟨by rfl, ?_⟩) ?_ ?_; rotate_left; (·intro w'; go_simp; (with_reducible rfl)); rotate_left; (·simp only [Act.put, sA, sZ, sS, i64_w, i32_w]; rfl)))
       refine one_ (i := 4) (N := some 98) (mb 10 31) rfl rfl (one_of HT_.out (by kernel_rfl)) (by decide) (fun K hK => ?_)
       refine goes_ Tryd.func46 (by kernel_rfl) rfl #[.string (rdOf ByteArray.empty x8_2 3), .agg #[.int .i64 t348, .int .i64 x338001_3, .int .i64 t339, .int .i64 0, .int .i64 0, .int .i64 0, .int .i64 0]] (by rfl) rfl rfl (by (try simp only [mT, mC, mN]) <;> rfl) ?_
       with_reducible refine (spec_l4Time.calls k3 (rdOf ByteArray.empty x8_2 3) t348 x338001_3 t339 0 0 0 0 t351 t352 t353 t354 t355 t356 t357 t358 _ A48.out).mono ?_
       rintro e w65 ⟨rfl, hb⟩
       have HS7_ := (hb.cell (World.block_lt_of_cell? _ _ (hHeld.2.2.2.2.2.2.2))).trans (hHeld.2.2.2.2.2.2.2)
       refine ⟨_, rfl, ?_⟩
       have n0_ := aM (Kd.R_below (by (with_reducible repeat (first | apply Kd.R_alloc | apply Kd.R_drewN | apply Kd.R_drew)); exact HO_8.out) hb); have n1_ := aM (blk_below (by (with_reducible repeat (first | refine Bf ?_ _ | refine Bh ?_ | refine Bg ?_ _)); exact BK320.out) hb); have n2_ := aM (blk_below (by (with_reducible repeat (first | refine Bf ?_ _ | refine Bh ?_ | refine Bg ?_ _)); exact BK337.out) hb); have n3_ := aM (below_step (by repeat (with_reducible first | exact HB.out | apply Be | apply Bc | apply Bd | refine Bs ?_ GE320.out | refine Bs ?_ GE337.out)) hb); clear HO_8; clear BK320; clear BK337; clear HB; have HO_8 := n0_; have BK320 := n1_; have BK337 := n2_; have HB := n3_; clear n0_ n1_ n2_ n3_
       (try clear hb)
       (try clear hb2)
       (try clear hk)
       (try clear hi)
       refine hK.out _ _ ⟨(Ba BK337.out 0).trans rfl, (Ba BK337.out 1).trans rfl, (Ba BK337.out 2).trans rfl, (Ba BK337.out 3).trans rfl, (Ba BK337.out 4).trans rfl, (Ba BK337.out 5).trans rfl, (Ba BK337.out 6).trans rfl, HS7_⟩ (fun hHeld => ?_)
       clear hK K
       refine norm_ (a' := ?_) ?_ ?_
       rotate_left
       ·show Act.put _ (some 98) _ = _
        simp only [Act.put, sA, sZ, sS, i64_w, i32_w]
        rfl
       refine ord_ 10 [(5,93,63),(6,99,127),(7,100,255)] ?_
       iterate 3 (refine sp_ (v := ?_) (a' := ?_) HT_ rfl rfl (by kernel_rfl) (fun _ _ _ h => h) (Or.inl ⟨by rfl, ?_⟩) ?_ ?_; rotate_left; (·intro w'; go_simp; (with_reducible rfl)); rotate_left; (·simp only [Act.put, sA, sZ, sS, i64_w, i32_w]; rfl))
       refine last_ (i := 8) (N := none) (mb 10 511) rfl rfl (one_of HT_.out (by kernel_rfl)) (by decide) (fun K hK => ?_)
       have hs66 : w65.cell? ⟨gb337, 0, none⟩ = some (.int .i64 t348) := (Ba BK337.out 0).trans rfl
       have hfs66 := Bb BK337.out 0; have hns66_0 := NB320_337.out; have hms66_0 := NB337_320.out
       have hs67 : w65.cell? ⟨gb337, 1, none⟩ = some (.int .i64 x338001_3) := (Ba BK337.out 1).trans rfl
       have hfs67 := Bb BK337.out 1; have hns67_0 := NB320_337.out; have hms67_0 := NB337_320.out
       have hs68 : w65.cell? ⟨gb337, 2, none⟩ = some (.int .i64 t339) := (Ba BK337.out 2).trans rfl
       have hfs68 := Bb BK337.out 2; have hns68_0 := NB320_337.out; have hms68_0 := NB337_320.out
       have hs69 : w65.cell? ⟨gb337, 3, none⟩ = some (.int .i64 0) := (Ba BK337.out 3).trans rfl
       have hfs69 := Bb BK337.out 3; have hns69_0 := NB320_337.out; have hms69_0 := NB337_320.out
       have hs70 : w65.cell? ⟨gb337, 4, none⟩ = some (.int .i64 0) := (Ba BK337.out 4).trans rfl
       have hfs70 := Bb BK337.out 4; have hns70_0 := NB320_337.out; have hms70_0 := NB337_320.out
       have hs71 : w65.cell? ⟨gb337, 5, none⟩ = some (.int .i64 0) := (Ba BK337.out 5).trans rfl
       have hfs71 := Bb BK337.out 5; have hns71_0 := NB320_337.out; have hms71_0 := NB337_320.out
       have hs72 : w65.cell? ⟨gb337, 6, none⟩ = some (.int .i64 0) := (Ba BK337.out 6).trans rfl
       have hfs72 := Bb BK337.out 6; have hns72_0 := NB320_337.out; have hms72_0 := NB337_320.out
       refine skip_ (w1 := ?_) (by rfl) rfl ?_ ?_
       rotate_left
       ·go_simp
        rfl
       refine hK.out _ _ ?_
       clear hK K
       refine pure_ (i := 9) (N := some 17) (v := ?_) (a' := ?_) (mb 10 1023) rfl rfl (any_of HT_.out (by kernel_rfl)) (fun _ _ _ h => h) (Or.inl ⟨by rfl, ?_⟩) ?_ ?_
       rotate_left; (·intro w'; go_simp; (with_reducible rfl)); rotate_left; (·simp only [Act.put, sA, sZ, sS, i64_w, i32_w]; rfl)
       refine done_ (done_of HT_.out (by kernel_rfl)) ?_
       have p359 : 0 ≤ (4 : Int) := (by omega)
       have q359 : 4 < (x8_2.length : Int) := of_decide_eq_true (by first | (with_reducible assumption) | assumption)
       (try (obtain ⟨Ay_, cy_, ey_⟩ := Kd.R_slice HO_8.out; subst ey_))
       obtain ⟨ad359, e359, hx359_0⟩ := Kd.at_string (Kd.R_reads' HO_8.out).2.2 4 p359 q359
       obtain rfl : ad338 = ad359 := (by injection e359)
       (try simp only [show (4 : Int).toNat = 4 from rfl, Nat.reduceMul, Nat.reduceEqDiff, Go.Addr.add, ↓reduceIte] at hx359_0)
       have qi359 : (4 < x8_2.length) = True := eq_true (by omega)
       have hn359 : ad338.block ≠ gb337 := Kd.own_blk (Kd.R_ne HO_8.out BK337.out (by decide))
       replace p359 := eq_true p359; replace q359 := eq_true q359
       obtain ⟨W7, hW7, p7, q7, r7, s7⟩ := put7_ (v0 := .int .i64 t351) (v1 := .int .i64 t352) (v2 := .int .i64 t353) (v3 := .int .i64 t354) (v4 := .int .i64 t355) (v5 := .int .i64 t356) (v6 := .int .i64 t357) HB.out GE337.out BK337.out
       rw [← hW7]
       have x_ := aM (r7 _ _ _ NB320_337.out BK320.out); have hy : W7.cell? ⟨ad338.block, ad338.off + 4, none⟩ = some (.string (rdOf ByteArray.empty x8_2 4)) := (s7 ⟨ad338.block, ad338.off + 4, none⟩ hn359).trans hx359_0
       clear HO_8 BK320 BK337 HB hW7 r7 s7 hx359_0; have BK320 := x_; have BK337 := aM p7; have HB := aM q7; clear x_ p7 q7
       have c6 : W7.cell? ⟨gb337, 6, none⟩ = some (.int .i64 t357) := (blk_cell BK337.out 6).trans rfl; have f6 := blk_frozen BK337.out 6
       go_upto_region 30 with (first | ((with_reducible refine gate_callee (f := 47) rfl ?_); refine goesL_ (some 105) rfl rfl Tryd.func47 (by kernel_rfl) rfl #[.string (rdOf ByteArray.empty x8_2 4)] rfl (by (try simp only [mT, mC, mN]) <;> rfl) ?_; (with_reducible refine (spec_l4Offset.calls k3 (rdOf ByteArray.empty x8_2 4) t360 t361 _ A50.out).mono ?_); rintro e w66 ⟨rfl, ⟨nd, rfl⟩⟩; refine ⟨_, rfl, ?_⟩))
       clear c6 f6 hy
       obtain ⟨W8, hW8, p8, q8, r8⟩ := put6_ (v := .int .i64 t360) (W := W7.drewN nd) (pw_below_drewN HB.out _) GE337.out (blk_drewN BK337.out _)
       rw [← hW8]
       have x_ := aM (r8 _ _ _ NB320_337.out (blk_drewN BK320.out _)); clear BK320 BK337 HB hW8 r8; have BK320 := x_; have BK337 := aM p8; have HB := aM q8; clear x_ p8 q8
       cases t340 with
       | false =>
        obtain ⟨czW80, czW81, czW82, czW83, czW84, czW85, czW86⟩ := c7_ BK320.out; obtain ⟨fzW80, fzW81, fzW82, fzW83, fzW84, fzW85, fzW86⟩ := f7_ BK320.out
        have H := HH.out
        rw [if_neg Bool.false_ne_true] at H
        simp only [Option.some.injEq, Prod.mk.injEq] at H
        obtain ⟨rfl, rfl, rfl, rfl, rfl, rfl, rfl, rfl⟩ := H
        clear HH
        go_wp2
        refine bodyPost_ret (results_ct rfl _ _ gb320 24 #[.int .i64 0, .int .i64 0, .int .i64 0, .int .i64 0, .int .i64 0, .int .i64 0, .int .i64 0] (0, 0) _ rfl (seven_ (by (with_reducible repeat (first | refine blk_drewN ?_ _ | refine blk_drew ?_ | refine blk_alloc ?_ _)); exact BK320.out)) Tryd.underlying24 rfl (by kernel_rfl)) rfl ?_
        exact ⟨by first | rfl | (simp; done), below7_ (by repeat (with_reducible first | exact HB.out | apply below_alloc | apply pw_below_drewN | apply below_drew1)) GE320.out⟩
       | true =>
        cases t349 with
        | false =>
         obtain ⟨czW80, czW81, czW82, czW83, czW84, czW85, czW86⟩ := c7_ BK320.out; obtain ⟨fzW80, fzW81, fzW82, fzW83, fzW84, fzW85, fzW86⟩ := f7_ BK320.out
         have H := HH.out
         rw [if_pos rfl] at H
         rw [if_neg Bool.false_ne_true] at H
         simp only [Option.some.injEq, Prod.mk.injEq] at H
         obtain ⟨rfl, rfl, rfl, rfl, rfl, rfl, rfl, rfl⟩ := H
         clear HH
         go_wp2
         refine bodyPost_ret (results_ct rfl _ _ gb320 24 #[.int .i64 0, .int .i64 0, .int .i64 0, .int .i64 0, .int .i64 0, .int .i64 0, .int .i64 0] (0, 0) _ rfl (seven_ (by (with_reducible repeat (first | refine blk_drewN ?_ _ | refine blk_drew ?_ | refine blk_alloc ?_ _)); exact BK320.out)) Tryd.underlying24 rfl (by kernel_rfl)) rfl ?_
         exact ⟨by first | rfl | (simp; done), below7_ (by repeat (with_reducible first | exact HB.out | apply below_alloc | apply pw_below_drewN | apply below_drew1)) GE320.out⟩
        | true =>
         cases t358 with
         | false =>
          obtain ⟨czW80, czW81, czW82, czW83, czW84, czW85, czW86⟩ := c7_ BK320.out; obtain ⟨fzW80, fzW81, fzW82, fzW83, fzW84, fzW85, fzW86⟩ := f7_ BK320.out
          have H := HH.out
          rw [if_pos rfl] at H
          rw [if_pos rfl] at H
          rw [if_neg Bool.false_ne_true] at H
          simp only [Option.some.injEq, Prod.mk.injEq] at H
          obtain ⟨rfl, rfl, rfl, rfl, rfl, rfl, rfl, rfl⟩ := H
          clear HH
          go_wp2
          refine bodyPost_ret (results_ct rfl _ _ gb320 24 #[.int .i64 0, .int .i64 0, .int .i64 0, .int .i64 0, .int .i64 0, .int .i64 0, .int .i64 0] (0, 0) _ rfl (seven_ (by (with_reducible repeat (first | refine blk_drewN ?_ _ | refine blk_drew ?_ | refine blk_alloc ?_ _)); exact BK320.out)) Tryd.underlying24 rfl (by kernel_rfl)) rfl ?_
          exact ⟨by first | rfl | (simp; done), below7_ (by repeat (with_reducible first | exact HB.out | apply below_alloc | apply pw_below_drewN | apply below_drew1)) GE320.out⟩
         | true =>
          cases t361 with
          | false =>
           obtain ⟨czW80, czW81, czW82, czW83, czW84, czW85, czW86⟩ := c7_ BK320.out; obtain ⟨fzW80, fzW81, fzW82, fzW83, fzW84, fzW85, fzW86⟩ := f7_ BK320.out
           have H := HH.out
           rw [if_pos rfl] at H
           rw [if_pos rfl] at H
           rw [if_pos rfl] at H
           rw [if_neg Bool.false_ne_true] at H
           simp only [Option.some.injEq, Prod.mk.injEq] at H
           obtain ⟨rfl, rfl, rfl, rfl, rfl, rfl, rfl, rfl⟩ := H
           clear HH
           go_wp2
           refine bodyPost_ret (results_ct rfl _ _ gb320 24 #[.int .i64 0, .int .i64 0, .int .i64 0, .int .i64 0, .int .i64 0, .int .i64 0, .int .i64 0] (0, 0) _ rfl (seven_ (by (with_reducible repeat (first | refine blk_drewN ?_ _ | refine blk_drew ?_ | refine blk_alloc ?_ _)); exact BK320.out)) Tryd.underlying24 rfl (by kernel_rfl)) rfl ?_
           exact ⟨by first | rfl | (simp; done), below7_ (by repeat (with_reducible first | exact HB.out | apply below_alloc | apply pw_below_drewN | apply below_drew1)) GE320.out⟩
          | true =>
           have G_ := HH.out; rw [if_pos rfl, if_pos rfl, if_pos rfl, if_pos rfl] at G_
           obtain ⟨t362, A550, G_⟩ := bI.mp G_
           have A55 := aM A550; clear A550 HH; have HH := aM G_; clear G_
           obtain ⟨cgW80, cgW81, cgW82, cgW83, cgW84, cgW85, cgW86⟩ := c7_ BK337.out; obtain ⟨fgW80, fgW81, fgW82, fgW83, fgW84, fgW85, fgW86⟩ := f7_ BK337.out
           cases t362 with
           | false =>
            have H := HH.out
            rw [if_neg Bool.false_ne_true] at H
            simp only [Option.some.injEq, Prod.mk.injEq] at H
            obtain ⟨rfl, rfl, rfl, rfl, rfl, rfl, rfl, rfl⟩ := H
            clear HH
            go_wp2_with (first | (go_at_call 19; (with_reducible refine (spec_DateValid.calls k3 t351 t352 t353 t354 t355 t356 t360 false _ A55.out).mono ?_); rintro e w71 ⟨rfl, hb⟩; have n0_ := aM (blk_below (by (with_reducible repeat (first | refine blk_drewN ?_ _ | refine blk_drew ?_ | refine blk_alloc ?_ _)); exact BK320.out) hb); have n1_ := aM (blk_below (by (with_reducible repeat (first | refine blk_drewN ?_ _ | refine blk_drew ?_ | refine blk_alloc ?_ _)); exact BK337.out) hb); have nb_ := aM (below_step (by repeat (with_reducible first | exact HB.out | apply below_alloc | apply pw_below_drewN | apply below_drew1)) hb); clear hb HB BK320 BK337; have BK320 := n0_; clear n0_; have BK337 := n1_; clear n1_; have HB := nb_; clear nb_; clear cgW80 fgW80 cgW81 fgW81 cgW82 fgW82 cgW83 fgW83 cgW84 fgW84 cgW85 fgW85 cgW86 fgW86; obtain ⟨czw710, czw711, czw712, czw713, czw714, czw715, czw716⟩ := c7_ BK320.out; obtain ⟨fzw710, fzw711, fzw712, fzw713, fzw714, fzw715, fzw716⟩ := f7_ BK320.out))
            refine bodyPost_ret (results_ct rfl _ _ gb320 24 #[.int .i64 0, .int .i64 0, .int .i64 0, .int .i64 0, .int .i64 0, .int .i64 0, .int .i64 0] (0, 0) _ rfl (seven_ (by (with_reducible repeat (first | refine blk_drewN ?_ _ | refine blk_drew ?_ | refine blk_alloc ?_ _)); exact BK320.out)) Tryd.underlying24 rfl (by kernel_rfl)) rfl ?_
            exact ⟨by first | rfl | (simp; done), below7_ (by repeat (with_reducible first | exact HB.out | apply below_alloc | apply pw_below_drewN | apply below_drew1)) GE320.out⟩
           | true =>
            cases t324 with
            | false =>
             have H := HH.out
             rw [if_pos rfl] at H
             rw [if_neg Bool.false_ne_true] at H
             simp only [Option.some.injEq, Prod.mk.injEq] at H
             obtain ⟨rfl, rfl, rfl, rfl, rfl, rfl, rfl, rfl⟩ := H
             clear HH
             go_wp2_with (first | (go_at_call 19; (with_reducible refine (spec_DateValid.calls k3 t351 t352 t353 t354 t355 t356 t360 true _ A55.out).mono ?_); rintro e w71 ⟨rfl, hb⟩; have n0_ := aM (blk_below (by (with_reducible repeat (first | refine blk_drewN ?_ _ | refine blk_drew ?_ | refine blk_alloc ?_ _)); exact BK320.out) hb); have n1_ := aM (blk_below (by (with_reducible repeat (first | refine blk_drewN ?_ _ | refine blk_drew ?_ | refine blk_alloc ?_ _)); exact BK337.out) hb); have nb_ := aM (below_step (by repeat (with_reducible first | exact HB.out | apply below_alloc | apply pw_below_drewN | apply below_drew1)) hb); clear hb HB BK320 BK337; have BK320 := n0_; clear n0_; have BK337 := n1_; clear n1_; have HB := nb_; clear nb_; clear cgW80 fgW80 cgW81 fgW81 cgW82 fgW82 cgW83 fgW83 cgW84 fgW84 cgW85 fgW85 cgW86 fgW86; obtain ⟨cgw710, cgw711, cgw712, cgw713, cgw714, cgw715, cgw716⟩ := c7_ BK337.out; obtain ⟨fgw710, fgw711, fgw712, fgw713, fgw714, fgw715, fgw716⟩ := f7_ BK337.out; obtain ⟨czw710, czw711, czw712, czw713, czw714, czw715, czw716⟩ := c7_ BK320.out; obtain ⟨fzw710, fzw711, fzw712, fzw713, fzw714, fzw715, fzw716⟩ := f7_ BK320.out))
             refine bodyPost_ret (results_ct rfl _ _ gb320 24 #[.int .i64 t351, .int .i64 t352, .int .i64 t353, .int .i64 t354, .int .i64 t355, .int .i64 t356, .int .i64 t360] (0, 0) _ rfl (seven_ (by (with_reducible repeat (first | refine blk_drewN ?_ _ | refine blk_drew ?_ | refine blk_alloc ?_ _)); exact BK320.out)) Tryd.underlying24 rfl (by kernel_rfl)) rfl ?_
             exact ⟨by first | rfl | (simp; done), below7_ (by repeat (with_reducible first | exact HB.out | apply below_alloc | apply pw_below_drewN | apply below_drew1)) GE320.out⟩
            | true =>
             have G_ := HH.out; rw [if_pos rfl, if_pos rfl] at G_
             obtain ⟨t363, A580, G_⟩ := bI.mp G_
             obtain ⟨t364, A590, G_⟩ := bI.mp G_
             have A58 := aM A580; have A59 := aM A590; clear A580 A590 HH; have HH := aM G_; clear G_
             cases t364 with
             | false =>
              have H := HH.out
              rw [if_neg Bool.false_ne_true] at H
              simp only [Option.some.injEq, Prod.mk.injEq] at H
              obtain ⟨rfl, rfl, rfl, rfl, rfl, rfl, rfl, rfl⟩ := H
              clear HH
              go_wp2_with (first | (go_at_call 19; (with_reducible refine (spec_DateValid.calls k3 t351 t352 t353 t354 t355 t356 t360 true _ A55.out).mono ?_); rintro e w71 ⟨rfl, hb⟩; have n0_ := aM (blk_below (by (with_reducible repeat (first | refine blk_drewN ?_ _ | refine blk_drew ?_ | refine blk_alloc ?_ _)); exact BK320.out) hb); have n1_ := aM (blk_below (by (with_reducible repeat (first | refine blk_drewN ?_ _ | refine blk_drew ?_ | refine blk_alloc ?_ _)); exact BK337.out) hb); have nb_ := aM (below_step (by repeat (with_reducible first | exact HB.out | apply below_alloc | apply pw_below_drewN | apply below_drew1)) hb); clear hb HB BK320 BK337; have BK320 := n0_; clear n0_; have BK337 := n1_; clear n1_; have HB := nb_; clear nb_; clear cgW80 fgW80 cgW81 fgW81 cgW82 fgW82 cgW83 fgW83 cgW84 fgW84 cgW85 fgW85 cgW86 fgW86; obtain ⟨cgw710, cgw711, cgw712, cgw713, cgw714, cgw715, cgw716⟩ := c7_ BK337.out; obtain ⟨fgw710, fgw711, fgw712, fgw713, fgw714, fgw715, fgw716⟩ := f7_ BK337.out) | (go_at_call 23; (with_reducible refine (spec_WeekdayOf.calls k3 t351 t352 t353 t354 t355 t356 t360 t363 _ A58.out).mono ?_); rintro e w72 ⟨rfl, hb⟩; have n0_ := aM (blk_below (by (with_reducible repeat (first | refine blk_drewN ?_ _ | refine blk_drew ?_ | refine blk_alloc ?_ _)); exact BK320.out) hb); have n1_ := aM (blk_below (by (with_reducible repeat (first | refine blk_drewN ?_ _ | refine blk_drew ?_ | refine blk_alloc ?_ _)); exact BK337.out) hb); have nb_ := aM (below_step (by repeat (with_reducible first | exact HB.out | apply below_alloc | apply pw_below_drewN | apply below_drew1)) hb); clear hb HB BK320 BK337; have BK320 := n0_; clear n0_; have BK337 := n1_; clear n1_; have HB := nb_; clear nb_; clear cgw710 fgw710 cgw711 fgw711 cgw712 fgw712 cgw713 fgw713 cgw714 fgw714 cgw715 fgw715 cgw716 fgw716) | (go_at_call 45; (with_reducible refine (spec_SameText.calls x4_4 t363 false _ A59.out).mono ?_); rintro e w73 ⟨rfl, hb⟩; have n0_ := aM (blk_below (by (with_reducible repeat (first | refine blk_drewN ?_ _ | refine blk_drew ?_ | refine blk_alloc ?_ _)); exact BK320.out) hb); have n1_ := aM (blk_below (by (with_reducible repeat (first | refine blk_drewN ?_ _ | refine blk_drew ?_ | refine blk_alloc ?_ _)); exact BK337.out) hb); have nb_ := aM (below_step (by repeat (with_reducible first | exact HB.out | apply below_alloc | apply pw_below_drewN | apply below_drew1)) hb); clear hb HB BK320 BK337; have BK320 := n0_; clear n0_; have BK337 := n1_; clear n1_; have HB := nb_; clear nb_; obtain ⟨czw730, czw731, czw732, czw733, czw734, czw735, czw736⟩ := c7_ BK320.out; obtain ⟨fzw730, fzw731, fzw732, fzw733, fzw734, fzw735, fzw736⟩ := f7_ BK320.out))
              refine bodyPost_ret (results_ct rfl _ _ gb320 24 #[.int .i64 0, .int .i64 0, .int .i64 0, .int .i64 0, .int .i64 0, .int .i64 0, .int .i64 0] (0, 0) _ rfl (seven_ (by (with_reducible repeat (first | refine blk_drewN ?_ _ | refine blk_drew ?_ | refine blk_alloc ?_ _)); exact BK320.out)) Tryd.underlying24 rfl (by kernel_rfl)) rfl ?_
              exact ⟨by first | rfl | (simp; done), below7_ (by repeat (with_reducible first | exact HB.out | apply below_alloc | apply pw_below_drewN | apply below_drew1)) GE320.out⟩
             | true =>
              have H := HH.out
              rw [if_pos rfl] at H
              simp only [Option.some.injEq, Prod.mk.injEq] at H
              obtain ⟨rfl, rfl, rfl, rfl, rfl, rfl, rfl, rfl⟩ := H
              clear HH
              go_wp2_with (first | (go_at_call 19; (with_reducible refine (spec_DateValid.calls k3 t351 t352 t353 t354 t355 t356 t360 true _ A55.out).mono ?_); rintro e w71 ⟨rfl, hb⟩; have n0_ := aM (blk_below (by (with_reducible repeat (first | refine blk_drewN ?_ _ | refine blk_drew ?_ | refine blk_alloc ?_ _)); exact BK320.out) hb); have n1_ := aM (blk_below (by (with_reducible repeat (first | refine blk_drewN ?_ _ | refine blk_drew ?_ | refine blk_alloc ?_ _)); exact BK337.out) hb); have nb_ := aM (below_step (by repeat (with_reducible first | exact HB.out | apply below_alloc | apply pw_below_drewN | apply below_drew1)) hb); clear hb HB BK320 BK337; have BK320 := n0_; clear n0_; have BK337 := n1_; clear n1_; have HB := nb_; clear nb_; clear cgW80 fgW80 cgW81 fgW81 cgW82 fgW82 cgW83 fgW83 cgW84 fgW84 cgW85 fgW85 cgW86 fgW86; obtain ⟨cgw710, cgw711, cgw712, cgw713, cgw714, cgw715, cgw716⟩ := c7_ BK337.out; obtain ⟨fgw710, fgw711, fgw712, fgw713, fgw714, fgw715, fgw716⟩ := f7_ BK337.out) | (go_at_call 23; (with_reducible refine (spec_WeekdayOf.calls k3 t351 t352 t353 t354 t355 t356 t360 t363 _ A58.out).mono ?_); rintro e w72 ⟨rfl, hb⟩; have n0_ := aM (blk_below (by (with_reducible repeat (first | refine blk_drewN ?_ _ | refine blk_drew ?_ | refine blk_alloc ?_ _)); exact BK320.out) hb); have n1_ := aM (blk_below (by (with_reducible repeat (first | refine blk_drewN ?_ _ | refine blk_drew ?_ | refine blk_alloc ?_ _)); exact BK337.out) hb); have nb_ := aM (below_step (by repeat (with_reducible first | exact HB.out | apply below_alloc | apply pw_below_drewN | apply below_drew1)) hb); clear hb HB BK320 BK337; have BK320 := n0_; clear n0_; have BK337 := n1_; clear n1_; have HB := nb_; clear nb_; clear cgw710 fgw710 cgw711 fgw711 cgw712 fgw712 cgw713 fgw713 cgw714 fgw714 cgw715 fgw715 cgw716 fgw716) | (go_at_call 45; (with_reducible refine (spec_SameText.calls x4_4 t363 true _ A59.out).mono ?_); rintro e w73 ⟨rfl, hb⟩; have n0_ := aM (blk_below (by (with_reducible repeat (first | refine blk_drewN ?_ _ | refine blk_drew ?_ | refine blk_alloc ?_ _)); exact BK320.out) hb); have n1_ := aM (blk_below (by (with_reducible repeat (first | refine blk_drewN ?_ _ | refine blk_drew ?_ | refine blk_alloc ?_ _)); exact BK337.out) hb); have nb_ := aM (below_step (by repeat (with_reducible first | exact HB.out | apply below_alloc | apply pw_below_drewN | apply below_drew1)) hb); clear hb HB BK320 BK337; have BK320 := n0_; clear n0_; have BK337 := n1_; clear n1_; have HB := nb_; clear nb_; obtain ⟨cgw730, cgw731, cgw732, cgw733, cgw734, cgw735, cgw736⟩ := c7_ BK337.out; obtain ⟨fgw730, fgw731, fgw732, fgw733, fgw734, fgw735, fgw736⟩ := f7_ BK337.out; obtain ⟨czw730, czw731, czw732, czw733, czw734, czw735, czw736⟩ := c7_ BK320.out; obtain ⟨fzw730, fzw731, fzw732, fzw733, fzw734, fzw735, fzw736⟩ := f7_ BK320.out))
              refine bodyPost_ret (results_ct rfl _ _ gb320 24 #[.int .i64 t351, .int .i64 t352, .int .i64 t353, .int .i64 t354, .int .i64 t355, .int .i64 t356, .int .i64 t360] (0, 0) _ rfl (seven_ (by (with_reducible repeat (first | refine blk_drewN ?_ _ | refine blk_drew ?_ | refine blk_alloc ?_ _)); exact BK320.out)) Tryd.underlying24 rfl (by kernel_rfl)) rfl ?_
              exact ⟨by first | rfl | (simp; done), below7_ (by repeat (with_reducible first | exact HB.out | apply below_alloc | apply pw_below_drewN | apply below_drew1)) GE320.out⟩
end Go.Proofs.YtafpbechcjcdbaaDoor.PFnDateText
