-- Written by a program of this session (wip/tool/myprint.py) out of the translation.
import Derived.Test.YtdkgbemlfajhcaaDoorPFnNameWordsx0
import Derived.Test.YtdkgbemlfajhcaaDoorPFnNameWordsx1
import Derived.Test.YtdkgbemlfajhcaaDoorPFnNameWordsx3
import Derived.Test.YtdkgbemlfajhcaaDoorPFnNameWordsx5
import Derived.Test.YtdkgbemlfajhcaaDoorPFnNameWordsx6
namespace Go.Proofs.YtdkgbemlfajhcaaDoor.PFnNameWords
open Go.RowKit Go.Proofs.YtdkgbemlfajhcaaDoorW.PrintWords Go.Proofs.YtdkgbemlfajhcaaDoorW.PrintLast Go.Proofs.YtdkgbemlfajhcaaDoorW.PrintMore
attribute [local go_sem] max2_int min2_int max_two min_two max_three min_three max_four min_four   -- for this text's walks alone
set_option linter.unusedVariables false
set_option linter.unusedSimpArgs false

/-! ### laws_FnNameWords: function 9 -/
mutual
def laws_FnNameWords.j0 : Nat → ByteArray → ByteArray → Bool → ByteArray → Bool → Bool → Option (Bool)
 | 0, _, _, _, _, _, _ => none
 | k + 1, x3, x4, x5, x6, x7, x44 => if x44 = true then (if x4.toList = x6.toList then (some (x5 == x7)) else (some false)) else (laws_FnNameWords.l0 k x3 x4 (⟨#[]⟩ : ByteArray) 0 0)
def laws_FnNameWords.l0 : Nat → ByteArray → ByteArray → ByteArray → Int → Int → Option (Bool)
 | 0, _, _, _, _, _ => none
 | k + 1, x3, x4, x8, x9, x10 => if x10 ≤ (x4.size : Int) then (if x10 < (x4.size : Int) then (if 0 ≤ x10 then (laws_FnNameWords.j2 k x3 x4 x8 x9 x10 ((bt x4 x10) != 32)) else (none)) else (laws_FnNameWords.j2 k x3 x4 x8 x9 x10 false)) else (some (x8.toList == x3.toList))
def laws_FnNameWords.j2 : Nat → ByteArray → ByteArray → ByteArray → Int → Int → Bool → Option (Bool)
 | 0, _, _, _, _, _, _ => none
 | k + 1, x3, x4, x8, x9, x10, x68 => if x68 = true then (laws_FnNameWords.l0 k x3 x4 x8 x9 (wrap64 (x10 + 1))) else (if 0 ≤ x9 then (if x9 ≤ x10 then (if x10 ≤ (x4.size : Int) then ((impl_ReadCodeWord.f k (x4.extract (x9 : Int).toNat (x10 : Int).toNat)).bind fun bt199 => (if bt199.2 = true then (if x8.size + bt199.1.size ≤ 9223372036854775807 then (laws_FnNameWords.l0 k x3 x4 (x8 ++ bt199.1) (wrap64 (x10 + 1)) (wrap64 (x10 + 1))) else (none)) else (some false))) else (none)) else (none)) else (none))
end
def laws_FnNameWords.f (k : Nat) (l0 : List Int) : Option (Bool) := if (l0.length : Int) > 1048576 then (some true) else ((spec_DrawEncodeName.f k l0).bind fun t193 => ((impl_EncodeName.f k t193).bind fun bt194 => ((spec_EncodeName.f k t193).bind fun bt196 => (if bt194.1.toList = bt196.1.toList then (if (bt194.2 != bt196.2) = true then (laws_FnNameWords.j0 k t193 bt194.1 bt194.2 bt196.1 bt196.2 true) else (if bt194.2 = true then ((impl_NeedsCode.f k t193).bind fun t198 => (laws_FnNameWords.j0 k t193 bt194.1 bt194.2 bt196.1 bt196.2 (!t198))) else (laws_FnNameWords.j0 k t193 bt194.1 bt194.2 bt196.1 bt196.2 true))) else (laws_FnNameWords.j0 k t193 bt194.1 bt194.2 bt196.1 bt196.2 true)))))
theorem laws_FnNameWords.mono_l : ∀ k, (∀ y0 y1 y2 y3 y4 y5, LeO (laws_FnNameWords.j0 k y0 y1 y2 y3 y4 y5) (laws_FnNameWords.j0 (k + 1) y0 y1 y2 y3 y4 y5)) ∧ (∀ y0 y1 y2 y3 y4, LeO (laws_FnNameWords.l0 k y0 y1 y2 y3 y4) (laws_FnNameWords.l0 (k + 1) y0 y1 y2 y3 y4)) ∧ (∀ y0 y1 y2 y3 y4 y5, LeO (laws_FnNameWords.j2 k y0 y1 y2 y3 y4 y5) (laws_FnNameWords.j2 (k + 1) y0 y1 y2 y3 y4 y5))
 | 0 => ⟨fun _ _ _ _ _ _ r h => by simp [laws_FnNameWords.j0] at h, fun _ _ _ _ _ r h => by simp [laws_FnNameWords.l0] at h, fun _ _ _ _ _ _ r h => by simp [laws_FnNameWords.j2] at h⟩
 | k + 1 => by
  obtain ⟨ih0, ih1, ih2⟩ := laws_FnNameWords.mono_l k
  refine ⟨?_, ?_, ?_⟩
  ·intro y0 y1 y2 y3 y4 y5
   unfold laws_FnNameWords.j0
   repeat' first
   | (with_reducible exact ih0 _ _ _ _ _ _)
   | (with_reducible exact ih1 _ _ _ _ _)
   | (with_reducible exact ih2 _ _ _ _ _ _)
   | (with_reducible exact impl_EncodeName.mono _ _)
   | (with_reducible exact impl_NeedsCode.mono _ _)
   | (with_reducible exact impl_ReadCodeWord.mono _ _)
   | (with_reducible exact spec_DrawEncodeName.mono _ _)
   | (with_reducible exact spec_EncodeName.mono _ _)
   | (with_reducible exact LeO.refl _)
   | (with_reducible exact LeO.none _)
   | (with_reducible refine LeO.ite ?_ ?_)
   | (with_reducible refine LeO.bind ?_ (fun _ => ?_))
   | exact ih0 _ _ _ _ _ _
   | exact ih1 _ _ _ _ _
   | exact ih2 _ _ _ _ _ _
   | exact impl_EncodeName.mono _ _
   | exact impl_NeedsCode.mono _ _
   | exact impl_ReadCodeWord.mono _ _
   | exact spec_DrawEncodeName.mono _ _
   | exact spec_EncodeName.mono _ _
   | exact LeO.none _
   | refine LeO.ite ?_ ?_
   | refine LeO.bind ?_ (fun _ => ?_)
  ·intro y0 y1 y2 y3 y4
   unfold laws_FnNameWords.l0
   repeat' first
   | (with_reducible exact ih0 _ _ _ _ _ _)
   | (with_reducible exact ih1 _ _ _ _ _)
   | (with_reducible exact ih2 _ _ _ _ _ _)
   | (with_reducible exact impl_EncodeName.mono _ _)
   | (with_reducible exact impl_NeedsCode.mono _ _)
   | (with_reducible exact impl_ReadCodeWord.mono _ _)
   | (with_reducible exact spec_DrawEncodeName.mono _ _)
   | (with_reducible exact spec_EncodeName.mono _ _)
   | (with_reducible exact LeO.refl _)
   | (with_reducible exact LeO.none _)
   | (with_reducible refine LeO.ite ?_ ?_)
   | (with_reducible refine LeO.bind ?_ (fun _ => ?_))
   | exact ih0 _ _ _ _ _ _
   | exact ih1 _ _ _ _ _
   | exact ih2 _ _ _ _ _ _
   | exact impl_EncodeName.mono _ _
   | exact impl_NeedsCode.mono _ _
   | exact impl_ReadCodeWord.mono _ _
   | exact spec_DrawEncodeName.mono _ _
   | exact spec_EncodeName.mono _ _
   | exact LeO.none _
   | refine LeO.ite ?_ ?_
   | refine LeO.bind ?_ (fun _ => ?_)
  ·intro y0 y1 y2 y3 y4 y5
   unfold laws_FnNameWords.j2
   repeat' first
   | (with_reducible exact ih0 _ _ _ _ _ _)
   | (with_reducible exact ih1 _ _ _ _ _)
   | (with_reducible exact ih2 _ _ _ _ _ _)
   | (with_reducible exact impl_EncodeName.mono _ _)
   | (with_reducible exact impl_NeedsCode.mono _ _)
   | (with_reducible exact impl_ReadCodeWord.mono _ _)
   | (with_reducible exact spec_DrawEncodeName.mono _ _)
   | (with_reducible exact spec_EncodeName.mono _ _)
   | (with_reducible exact LeO.refl _)
   | (with_reducible exact LeO.none _)
   | (with_reducible refine LeO.ite ?_ ?_)
   | (with_reducible refine LeO.bind ?_ (fun _ => ?_))
   | exact ih0 _ _ _ _ _ _
   | exact ih1 _ _ _ _ _
   | exact ih2 _ _ _ _ _ _
   | exact impl_EncodeName.mono _ _
   | exact impl_NeedsCode.mono _ _
   | exact impl_ReadCodeWord.mono _ _
   | exact spec_DrawEncodeName.mono _ _
   | exact spec_EncodeName.mono _ _
   | exact LeO.none _
   | refine LeO.ite ?_ ?_
   | refine LeO.bind ?_ (fun _ => ?_)
theorem laws_FnNameWords.mono : ∀ a0 k, LeO (laws_FnNameWords.f k a0) (laws_FnNameWords.f (k + 1) a0) := by
 intro a0 k
 obtain ⟨ih0, ih1, ih2⟩ := laws_FnNameWords.mono_l k
 unfold laws_FnNameWords.f
 repeat' first
   | (with_reducible exact ih0 _ _ _ _ _ _)
   | (with_reducible exact ih1 _ _ _ _ _)
   | (with_reducible exact ih2 _ _ _ _ _ _)
   | (with_reducible exact impl_EncodeName.mono _ _)
   | (with_reducible exact impl_NeedsCode.mono _ _)
   | (with_reducible exact impl_ReadCodeWord.mono _ _)
   | (with_reducible exact spec_DrawEncodeName.mono _ _)
   | (with_reducible exact spec_EncodeName.mono _ _)
   | (with_reducible exact LeO.refl _)
   | (with_reducible exact LeO.none _)
   | (with_reducible refine LeO.ite ?_ ?_)
   | (with_reducible refine LeO.bind ?_ (fun _ => ?_))
   | exact ih0 _ _ _ _ _ _
   | exact ih1 _ _ _ _ _
   | exact ih2 _ _ _ _ _ _
   | exact impl_EncodeName.mono _ _
   | exact impl_NeedsCode.mono _ _
   | exact impl_ReadCodeWord.mono _ _
   | exact spec_DrawEncodeName.mono _ _
   | exact spec_EncodeName.mono _ _
   | exact LeO.none _
   | refine LeO.ite ?_ ?_
   | refine LeO.bind ?_ (fun _ => ?_)
set_option maxHeartbeats 8000000 in
set_option maxRecDepth 100000 in
theorem laws_FnNameWords.calls (k : Nat) (A0 : Option Addr) (c0 : Nat) (l0 : List Int) (r : Bool) (w : World) (hr0 : Kd.C (Kd.int .u8) w A0 l0.length l0) (hc0 : l0.length ≤ c0) (h : laws_FnNameWords.f k l0 = some r) (hS : AmbM w := by repeat (first | (with_reducible assumption) | assumption | (with_reducible apply AmbM.drewN) | (with_reducible apply AmbM.drew) | (with_reducible apply AmbM.alloc) | exact AmbM.below (by assumption) (Aside0.out (by assumption)) | exact AmbM.below (by assumption) (by assumption))) :
  Calls Tryd.prog 9 #[.slice A0 l0.length c0] w fun e w' => e = .returned (.bool r) ∧ Below w.heap.size w w' := by
 have HR0 := Aside0.mk hr0
 have HC0 := Aside0.mk hc0
 clear hr0 hc0
 have HB := Aside0.mk (Below.refl w.heap.size w)
 have H : (if (l0.length : Int) > 1048576 then (some true) else ((spec_DrawEncodeName.f k l0).bind fun t193 => ((impl_EncodeName.f k t193).bind fun bt194 => ((spec_EncodeName.f k t193).bind fun bt196 => (if bt194.1.toList = bt196.1.toList then (if (bt194.2 != bt196.2) = true then (laws_FnNameWords.j0 k t193 bt194.1 bt194.2 bt196.1 bt196.2 true) else (if bt194.2 = true then ((impl_NeedsCode.f k t193).bind fun t198 => (laws_FnNameWords.j0 k t193 bt194.1 bt194.2 bt196.1 bt196.2 (!t198))) else (laws_FnNameWords.j0 k t193 bt194.1 bt194.2 bt196.1 bt196.2 true))) else (laws_FnNameWords.j0 k t193 bt194.1 bt194.2 bt196.1 bt196.2 true)))))) = some r := h
 clear h
 by_cases c2 : (l0.length : Int) > 1048576
 ·rw [if_pos c2] at H
  have c2b0 : decide (1048576 < (l0.length : Int)) = true := decide_eq_true c2
  have c2b1 : decide (1048576 < l0.length) = true := decide_eq_true (by omega)
  clear c2
  obtain rfl := Option.some.inj H
  go_enter Tryd.func9, Tryd.ntmps9
  go_wp2
  go_ret
  exact ⟨by first | rfl | (simp [errW_none, errW_some] <;> rfl) | (simp [*, errW_none, errW_some] <;> rfl), by repeat (first | (with_reducible first | exact HB.out | apply below_alloc | apply pw_below_drewN | apply below_drew1) | exact HB.out)⟩
 ·rw [if_neg c2] at H
  have c2b0 : decide (1048576 < (l0.length : Int)) = false := decide_eq_false c2
  have c2b1 : decide (1048576 < l0.length) = false := decide_eq_false (by omega)
  clear c2
  replace H := Option.bind_eq_some_iff.mp H
  obtain ⟨t193, A30, H⟩ := H
  replace H : ((impl_EncodeName.f k t193).bind fun bt194 => ((spec_EncodeName.f k t193).bind fun bt196 => (if bt194.1.toList = bt196.1.toList then (if (bt194.2 != bt196.2) = true then (laws_FnNameWords.j0 k t193 bt194.1 bt194.2 bt196.1 bt196.2 true) else (if bt194.2 = true then ((impl_NeedsCode.f k t193).bind fun t198 => (laws_FnNameWords.j0 k t193 bt194.1 bt194.2 bt196.1 bt196.2 (!t198))) else (laws_FnNameWords.j0 k t193 bt194.1 bt194.2 bt196.1 bt196.2 true))) else (laws_FnNameWords.j0 k t193 bt194.1 bt194.2 bt196.1 bt196.2 true)))) = some r := H
  have A3 := Aside0.mk A30
  clear A30
  replace H := Option.bind_eq_some_iff.mp H
  obtain ⟨⟨t194, t195⟩, A40, H⟩ := H
  replace H : ((spec_EncodeName.f k t193).bind fun bt196 => (if t194.toList = bt196.1.toList then (if (t195 != bt196.2) = true then (laws_FnNameWords.j0 k t193 t194 t195 bt196.1 bt196.2 true) else (if t195 = true then ((impl_NeedsCode.f k t193).bind fun t198 => (laws_FnNameWords.j0 k t193 t194 t195 bt196.1 bt196.2 (!t198))) else (laws_FnNameWords.j0 k t193 t194 t195 bt196.1 bt196.2 true))) else (laws_FnNameWords.j0 k t193 t194 t195 bt196.1 bt196.2 true))) = some r := H
  have A4 := Aside0.mk A40
  clear A40
  replace H := Option.bind_eq_some_iff.mp H
  obtain ⟨⟨t196, t197⟩, A50, H⟩ := H
  replace H : (if t194.toList = t196.toList then (if (t195 != t197) = true then (laws_FnNameWords.j0 k t193 t194 t195 t196 t197 true) else (if t195 = true then ((impl_NeedsCode.f k t193).bind fun t198 => (laws_FnNameWords.j0 k t193 t194 t195 t196 t197 (!t198))) else (laws_FnNameWords.j0 k t193 t194 t195 t196 t197 true))) else (laws_FnNameWords.j0 k t193 t194 t195 t196 t197 true)) = some r := H
  have A5 := Aside0.mk A50
  clear A50
  have HC6 := Aside0.mk H
  clear H
  go_enter Tryd.func9, Tryd.ntmps9
  go_upto_region 6 with (first | ((with_reducible refine gate_callee (f := 24) rfl ?_); refine goesL_ (some 17) rfl rfl Tryd.func24 (by kernel_rfl) rfl #[.slice A0 l0.length c0] rfl (by (try simp only [List.map_toArray, List.map_cons, List.map_nil]); first | done | rfl | (simp only [List.length_drop, List.length_take]; rfl)) ?_; (with_reducible refine (spec_DrawEncodeName.calls k _ _ l0 t193 _ ?side1 ?side2 A3.out).mono ?_); (case side1 => repeat (first | exact HR0.out | (with_reducible refine Kd.C_alloc ?_ _) | (with_reducible refine Kd.C_drewN ?_ _) | (with_reducible refine Kd.C_drew ?_))); (case side2 => exact HC0.out); rintro e w7 ⟨rfl, hb⟩; refine ⟨_, rfl, ?_⟩; have n0_ := Aside0.mk (below_step (by repeat (first | (with_reducible first | exact HB.out | apply below_alloc | apply pw_below_drewN | apply below_drew1) | exact HB.out)) hb); clear HB; have HB := n0_; clear n0_; (try clear hb); (try clear hb2); (try clear hk); (try clear hi)) | ((with_reducible refine gate_callee (f := 25) rfl ?_); refine goesL_ (some 20) rfl rfl Tryd.func25 (by kernel_rfl) rfl #[.string t193] rfl (by (try simp only [List.map_toArray, List.map_cons, List.map_nil]); first | done | rfl | (simp only [List.length_drop, List.length_take]; rfl)) ?_; (with_reducible refine (impl_EncodeName.calls k t193 t194 t195 _ A4.out).mono ?_); rintro e w8 ⟨rfl, hb⟩; refine ⟨_, rfl, ?_⟩; have n0_ := Aside0.mk (below_step (by repeat (first | (with_reducible first | exact HB.out | apply below_alloc | apply pw_below_drewN | apply below_drew1) | exact HB.out)) hb); clear HB; have HB := n0_; clear n0_; (try clear hb); (try clear hb2); (try clear hk); (try clear hi)) | ((with_reducible refine gate_callee (f := 26) rfl ?_); refine goesL_ (some 25) rfl rfl Tryd.func26 (by kernel_rfl) rfl #[.string t193] rfl (by (try simp only [List.map_toArray, List.map_cons, List.map_nil]); first | done | rfl | (simp only [List.length_drop, List.length_take]; rfl)) ?_; (with_reducible refine (spec_EncodeName.calls k t193 t196 t197 _ A5.out).mono ?_); rintro e w9 ⟨rfl, hb⟩; refine ⟨_, rfl, ?_⟩; have n0_ := Aside0.mk (below_step (by repeat (first | (with_reducible first | exact HB.out | apply below_alloc | apply pw_below_drewN | apply below_drew1) | exact HB.out)) hb); clear HB; have HB := n0_; clear n0_; (try clear hb); (try clear hb2); (try clear hk); (try clear hi)))
  (try simp only [Act.put, List.setIfInBounds_toArray, List.set_cons_zero, List.set_cons_succ])
  go_cut [44] (fun v44 wc => ∃ (kq : Nat) (x44_5 : Bool), v44 = .bool x44_5 ∧ Aside0 (laws_FnNameWords.j0 kq t193 t194 t195 t196 t197 x44_5 = some r) ∧ Aside0 (kq ≤ k) ∧ Aside0 (Below w.heap.size w wc))
  case first =>
   have H := HC6.out
   clear HC6
   by_cases c10 : t194.toList = t196.toList
   ·rw [if_pos c10] at H
    have c10b0 : (t194.toList == t196.toList) = true := beq_iff_eq.mpr c10
    have c10b1 : (t194.toList != t196.toList) = false := bne_eq_false_iff_eq.mpr c10
    clear c10
    (first | rw [c10b0] | (simp only [i64_w, i32_w]; rw [c10b0]) | skip)
    by_cases c11 : (t195 != t197) = true
    ·rw [if_pos c11] at H
     have c11b0 : (t195 != t197) = true := c11
     (try (have c11b1 : decide (t195 = t197) = false := by simpa using c11))
     (try (have c11b2 : (t195 == t197) = false := by simpa using c11))
     (try (have c11b3 : ¬ (t195 = t197) := by simpa using c11))
     clear c11
     have H' := Aside0.mk H
     clear H
     go_wp2
     go_meet
     case rel => exact ⟨_, (true), (by first | rfl | (simp; done) | (simp [*]; done)), H', ⟨by first | omega | exact Nat.le_refl _⟩, ⟨by repeat (first | (with_reducible first | exact HB.out | apply below_alloc | apply pw_below_drewN | apply below_drew1) | exact HB.out)⟩⟩
    ·rw [if_neg c11] at H
     have c11b0 : (t195 != t197) = false := by simpa using c11
     (try (have c11b1 : decide (t195 = t197) = true := by simpa using c11))
     (try (have c11b2 : (t195 == t197) = true := by simpa using c11))
     clear c11
     by_cases c12 : t195 = true
     ·subst c12
      have H1 : ((impl_NeedsCode.f k t193).bind fun t198 => (laws_FnNameWords.j0 k t193 t194 true t196 t197 (!t198))) = some r := by rw [if_pos rfl] at H; exact H
      clear H
      have H := H1
      clear H1
      replace H := Option.bind_eq_some_iff.mp H
      obtain ⟨t198, A130, H⟩ := H
      replace H : (laws_FnNameWords.j0 k t193 t194 true t196 t197 (!t198)) = some r := H
      have A13 := Aside0.mk A130
      clear A130
      have H' := Aside0.mk H
      clear H
      go_wp2_with (first | (go_at_call 27; (with_reducible refine (impl_NeedsCode.calls k t193 t198 _ A13.out).mono ?_); rintro e w' ⟨rfl, ⟨nd, rfl⟩⟩))
      go_meet
      case rel => exact ⟨_, (!t198), (by first | rfl | (simp; done) | (simp [*]; done)), H', ⟨by first | omega | exact Nat.le_refl _⟩, ⟨by repeat (first | (with_reducible first | exact HB.out | apply below_alloc | apply pw_below_drewN | apply below_drew1) | exact HB.out)⟩⟩
     ·replace c12 := Bool.eq_false_iff.mpr c12
      subst c12
      have H1 : (laws_FnNameWords.j0 k t193 t194 false t196 t197 true) = some r := by rw [if_neg (show ¬ (false = true) by decide)] at H; exact H
      clear H
      have H := H1
      clear H1
      have H' := Aside0.mk H
      clear H
      go_wp2
      go_meet
      case rel => exact ⟨_, (true), (by first | rfl | (simp; done) | (simp [*]; done)), H', ⟨by first | omega | exact Nat.le_refl _⟩, ⟨by repeat (first | (with_reducible first | exact HB.out | apply below_alloc | apply pw_below_drewN | apply below_drew1) | exact HB.out)⟩⟩
   ·rw [if_neg c10] at H
    have c10b0 : (t194.toList == t196.toList) = false := beq_eq_false_iff_ne.mpr c10
    have c10b1 : (t194.toList != t196.toList) = true := bne_iff_ne.mpr c10
    (first | rw [c10b0] | (simp only [i64_w, i32_w]; rw [c10b0]) | skip)
    have H' := Aside0.mk H
    clear H
    go_wp2
    go_meet
    case rel => exact ⟨_, (true), (by first | rfl | (simp; done) | (simp [*]; done)), H', ⟨by first | omega | exact Nat.le_refl _⟩, ⟨by repeat (first | (with_reducible first | exact HB.out | apply below_alloc | apply pw_below_drewN | apply below_drew1) | exact HB.out)⟩⟩
  case rest =>
   clear HC6
   try clear c1
   try clear c2
   try clear c2b0
   try clear c2b1
   try clear p2
   try clear c9
   try clear c10
   try clear c10b0
   try clear c10b1
   try clear c11
   try clear c11b0
   try clear c11b1
   try clear c11b2
   try clear c12
   obtain ⟨kq, x44_5, rfl, HA, HJ5, HB⟩ := hcut
   cases kq with
   | zero => exact absurd HA.out (by simp [laws_FnNameWords.j0])
   | succ kj5 =>
    have H := HA.out
    clear HA
    simp only [laws_FnNameWords.j0] at H
    by_cases c14 : x44_5 = true
    ·subst c14
     have H1 : (if t194.toList = t196.toList then (some (t195 == t197)) else (some false)) = some r := by rw [if_pos rfl] at H; exact H
     clear H
     have H := H1
     clear H1
     by_cases c15 : t194.toList = t196.toList
     ·rw [if_pos c15] at H
      have c15b0 : (t194.toList == t196.toList) = true := beq_iff_eq.mpr c15
      have c15b1 : (t194.toList != t196.toList) = false := bne_eq_false_iff_eq.mpr c15
      clear c15
      obtain rfl := Option.some.inj H
      go_wp2
      go_ret
      exact ⟨by first | rfl | (simp [errW_none, errW_some] <;> rfl) | (simp [*, errW_none, errW_some] <;> rfl), by repeat (first | (with_reducible first | exact HB.out | apply below_alloc | apply pw_below_drewN | apply below_drew1) | exact HB.out)⟩
     ·rw [if_neg c15] at H
      have c15b0 : (t194.toList == t196.toList) = false := beq_eq_false_iff_ne.mpr c15
      have c15b1 : (t194.toList != t196.toList) = true := bne_iff_ne.mpr c15
      obtain rfl := Option.some.inj H
      go_wp2
      go_ret
      exact ⟨by first | rfl | (simp [errW_none, errW_some] <;> rfl) | (simp [*, errW_none, errW_some] <;> rfl), by repeat (first | (with_reducible first | exact HB.out | apply below_alloc | apply pw_below_drewN | apply below_drew1) | exact HB.out)⟩
    ·replace c14 := Bool.eq_false_iff.mpr c14
     subst c14
     have H1 : (laws_FnNameWords.l0 kj5 t193 t194 (⟨#[]⟩ : ByteArray) 0 0) = some r := by rw [if_neg (show ¬ (false = true) by decide)] at H; exact H
     clear H
     have H := H1
     clear H1
     have H' := Aside0.mk H
     clear H
     go_wp2
     go_loopg [8, 9, 10] kj5 (fun kq v8 v9 v10 w' => ∃ (x8_2 : ByteArray) (x9_2 : Int) (x10_2 : Int), v8 = .string x8_2 ∧ v9 = .int .i64 x9_2 ∧ v10 = .int .i64 x10_2 ∧ Aside0 (laws_FnNameWords.l0 kq t193 t194 x8_2 x9_2 x10_2 = some r) ∧ Aside0 (kq ≤ kj5) ∧ Aside0 (Below w.heap.size w w'))
     case atStart => exact ⟨((⟨#[]⟩ : ByteArray)), (0), (0), (by first | rfl | (simp; done) | (simp [*]; done)), (by first | rfl | (simp; done) | (simp [*]; done)), (by first | rfl | (simp; done) | (simp [*]; done)), H', ⟨Nat.le_refl _⟩, ⟨by repeat (first | (with_reducible first | exact HB.out | apply below_alloc | apply pw_below_drewN | apply below_drew1) | exact HB.out)⟩⟩
     case round =>
      clear H'
      try clear c1
      try clear c2
      try clear c2b0
      try clear c2b1
      try clear p2
      try clear c9
      try clear c10
      try clear c10b0
      try clear c10b1
      try clear c11
      try clear c11b0
      try clear c11b1
      try clear c11b2
      try clear c12
      try clear c14
      try clear c15
      try clear c15b0
      try clear c15b1
      try clear p2
      obtain ⟨x8_2, x9_2, x10_2, rfl, rfl, rfl, HA, HK2, HB⟩ := hrel
      cases gk with
      | zero => exact absurd HA.out (by simp [laws_FnNameWords.l0])
      | succ k2 =>
       have H := HA.out
       clear HA
       simp only [laws_FnNameWords.l0] at H
       by_cases c16 : x10_2 ≤ (t194.size : Int)
       ·rw [if_pos c16] at H
        have c16b0 : decide (x10_2 ≤ (t194.size : Int)) = true := decide_eq_true c16
        clear c16
        have HC17 := Aside0.mk H
        clear H
        go_upto_region 13 with (fail)
        go_cut [68] (fun v68 wc => ∃ (kq : Nat) (x68_16 : Bool), v68 = .bool x68_16 ∧ Aside0 (laws_FnNameWords.j2 kq t193 t194 x8_2 x9_2 x10_2 x68_16 = some r) ∧ Aside0 (kq ≤ k2) ∧ Aside0 (Below w.heap.size w wc))
        case first =>
         have H := HC17.out
         clear HC17
         by_cases c18 : x10_2 < (t194.size : Int)
         ·rw [if_pos c18] at H
          have c18b0 : decide (x10_2 < (t194.size : Int)) = true := decide_eq_true c18
          clear c18
          (first | rw [c18b0] | (simp only [i64_w, i32_w]; rw [c18b0]) | skip)
          by_cases c19 : 0 ≤ x10_2
          ·rw [if_pos c19] at H
           have c19b0 : decide (0 ≤ x10_2) = true := decide_eq_true c19
           clear c19
           have H' := Aside0.mk H
           clear H
           have p20 : 0 ≤ (x10_2 : Int) := of_decide_eq_true (by first | (with_reducible assumption) | assumption)
           have q20 : x10_2 < (t194.size : Int) := of_decide_eq_true (by first | (with_reducible assumption) | assumption)
           have hx20 := bt_at t194 x10_2
           replace p20 := eq_true p20
           replace q20 := eq_true q20
           go_wp2
           go_meet
           case rel => exact ⟨_, (((bt t194 x10_2) != 32)), (by first | rfl | (simp; done) | (simp [*]; done)), H', ⟨by have := HJ5.out; have := HK2.out; first | omega | exact Nat.le_refl _⟩, ⟨by repeat (first | (with_reducible first | exact HB.out | apply below_alloc | apply pw_below_drewN | apply below_drew1) | exact HB.out)⟩⟩
          ·rw [if_neg c19] at H
           exact absurd H (by simp)
         ·rw [if_neg c18] at H
          have c18b0 : decide (x10_2 < (t194.size : Int)) = false := decide_eq_false c18
          clear c18
          (first | rw [c18b0] | (simp only [i64_w, i32_w]; rw [c18b0]) | skip)
          have H' := Aside0.mk H
          clear H
          go_wp2
          go_meet
          case rel => exact ⟨_, (false), (by first | rfl | (simp; done) | (simp [*]; done)), H', ⟨by have := HJ5.out; have := HK2.out; first | omega | exact Nat.le_refl _⟩, ⟨by repeat (first | (with_reducible first | exact HB.out | apply below_alloc | apply pw_below_drewN | apply below_drew1) | exact HB.out)⟩⟩
        case rest =>
         clear HC17
         try clear c1
         try clear c2
         try clear c2b0
         try clear c2b1
         try clear p2
         try clear q2
         try clear hx2
         try clear c9
         try clear c10
         try clear c10b0
         try clear c10b1
         try clear c11
         try clear c11b0
         try clear c11b1
         try clear c11b2
         try clear c12
         try clear c14
         try clear c15
         try clear c15b0
         try clear c15b1
         try clear c16
         try clear c16b0
         try clear c18
         try clear c18b0
         try clear c19
         try clear c19b0
         try clear p20
         try clear q20
         try clear hx20
         try clear p2
         try clear p20
         try clear q20
         obtain ⟨kq, x68_16, rfl, HA, HJ16, HB⟩ := hcut
         cases kq with
         | zero => exact absurd HA.out (by simp [laws_FnNameWords.j2])
         | succ kj16 =>
          have H := HA.out
          clear HA
          simp only [laws_FnNameWords.j2] at H
          by_cases c21 : x68_16 = true
          ·subst c21
           have H1 : (laws_FnNameWords.l0 kj16 t193 t194 x8_2 x9_2 (wrap64 (x10_2 + 1))) = some r := by rw [if_pos rfl] at H; exact H
           clear H
           have H := H1
           clear H1
           have H' := Aside0.mk H
           clear H
           go_wp2
           go_roundg kj16
           case measure => have := HJ5.out; have := HK2.out; have := HJ16.out; omega
           case rel => exact ⟨(x8_2), (x9_2), (wrap64 (x10_2 + 1)), (by first | rfl | (simp; done) | (simp [*]; done)), (by first | rfl | (simp; done) | (simp [*]; done)), (by first | rfl | (simp; done) | (simp [*]; done)), H', ⟨by have := HJ5.out; have := HK2.out; have := HJ16.out; omega⟩, ⟨by repeat (first | (with_reducible first | exact HB.out | apply below_alloc | apply pw_below_drewN | apply below_drew1) | exact HB.out)⟩⟩
          ·replace c21 := Bool.eq_false_iff.mpr c21
           subst c21
           have H1 : (if 0 ≤ x9_2 then (if x9_2 ≤ x10_2 then (if x10_2 ≤ (t194.size : Int) then ((impl_ReadCodeWord.f kj16 (t194.extract (x9_2 : Int).toNat (x10_2 : Int).toNat)).bind fun bt199 => (if bt199.2 = true then (if x8_2.size + bt199.1.size ≤ 9223372036854775807 then (laws_FnNameWords.l0 kj16 t193 t194 (x8_2 ++ bt199.1) (wrap64 (x10_2 + 1)) (wrap64 (x10_2 + 1))) else (none)) else (some false))) else (none)) else (none)) else (none)) = some r := by rw [if_neg (show ¬ (false = true) by decide)] at H; exact H
           clear H
           have H := H1
           clear H1
           by_cases c22 : 0 ≤ x9_2
           ·rw [if_pos c22] at H
            have c22b0 := eq_true c22
            have c22b1 : decide (0 ≤ x9_2) = true := decide_eq_true c22
            clear c22
            by_cases c23 : x9_2 ≤ x10_2
            ·rw [if_pos c23] at H
             have c23b0 := eq_true c23
             have c23b1 : decide (x9_2 ≤ x10_2) = true := decide_eq_true c23
             clear c23
             by_cases c24 : x10_2 ≤ (t194.size : Int)
             ·rw [if_pos c24] at H
              have c24b0 := eq_true c24
              have c24b1 : decide (x10_2 ≤ (t194.size : Int)) = true := decide_eq_true c24
              clear c24
              replace H := Option.bind_eq_some_iff.mp H
              obtain ⟨⟨t199, t200⟩, A250, H⟩ := H
              replace H : (if t200 = true then (if x8_2.size + t199.size ≤ 9223372036854775807 then (laws_FnNameWords.l0 kj16 t193 t194 (x8_2 ++ t199) (wrap64 (x10_2 + 1)) (wrap64 (x10_2 + 1))) else (none)) else (some false)) = some r := H
              have A25 := Aside0.mk A250
              clear A250
              by_cases c26 : t200 = true
              ·subst c26
               have H1 : (if x8_2.size + t199.size ≤ 9223372036854775807 then (laws_FnNameWords.l0 kj16 t193 t194 (x8_2 ++ t199) (wrap64 (x10_2 + 1)) (wrap64 (x10_2 + 1))) else (none)) = some r := by rw [if_pos rfl] at H; exact H
               clear H
               have H := H1
               clear H1
               by_cases c27 : x8_2.size + t199.size ≤ 9223372036854775807
               ·rw [if_pos c27] at H
                have c27b0 := eq_true c27
                have c27b1 : decide (x8_2.size + t199.size ≤ 9223372036854775807) = true := decide_eq_true c27
                try have c27b2 : (9223372036854775807 < x8_2.size + t199.size) = False := eq_false (Nat.not_lt.2 c27)
                have H' := Aside0.mk H
                clear H
                go_wp2_with (first | ((with_reducible refine gate_callee (f := 30) rfl ?_); refine goesL_ (some 74) rfl rfl Tryd.func30 (by kernel_rfl) rfl #[.string (t194.extract (x9_2 : Int).toNat (x10_2 : Int).toNat)] rfl (by (try simp only [List.map_toArray, List.map_cons, List.map_nil]); first | done | rfl | (simp only [List.length_drop, List.length_take]; rfl)) ?_; (with_reducible refine (impl_ReadCodeWord.calls kj16 (t194.extract (x9_2 : Int).toNat (x10_2 : Int).toNat) t199 true _ A25.out).mono ?_); rintro e w28 ⟨rfl, hb⟩; refine ⟨_, rfl, ?_⟩; have n0_ := Aside0.mk (below_step (by repeat (first | (with_reducible first | exact HB.out | apply below_alloc | apply pw_below_drewN | apply below_drew1) | exact HB.out)) hb); clear HB; have HB := n0_; clear n0_; (try clear hb); (try clear hb2); (try clear hk); (try clear hi)))
                go_roundg kj16
                case measure => have := HJ5.out; have := HK2.out; have := HJ16.out; omega
                case rel => exact ⟨(x8_2 ++ t199), (wrap64 (x10_2 + 1)), (wrap64 (x10_2 + 1)), (by first | rfl | (simp; done) | (simp [*]; done)), (by first | rfl | (simp; done) | (simp [*]; done)), (by first | rfl | (simp; done) | (simp [*]; done)), H', ⟨by have := HJ5.out; have := HK2.out; have := HJ16.out; omega⟩, ⟨by repeat (first | (with_reducible first | exact HB.out | apply below_alloc | apply pw_below_drewN | apply below_drew1) | exact HB.out)⟩⟩
               ·rw [if_neg c27] at H
                exact absurd H (by simp)
              ·replace c26 := Bool.eq_false_iff.mpr c26
               subst c26
               have H1 : (some false) = some r := by rw [if_neg (show ¬ (false = true) by decide)] at H; exact H
               clear H
               have H := H1
               clear H1
               obtain rfl := Option.some.inj H
               go_wp2_with (first | ((with_reducible refine gate_callee (f := 30) rfl ?_); refine goesL_ (some 74) rfl rfl Tryd.func30 (by kernel_rfl) rfl #[.string (t194.extract (x9_2 : Int).toNat (x10_2 : Int).toNat)] rfl (by (try simp only [List.map_toArray, List.map_cons, List.map_nil]); first | done | rfl | (simp only [List.length_drop, List.length_take]; rfl)) ?_; (with_reducible refine (impl_ReadCodeWord.calls kj16 (t194.extract (x9_2 : Int).toNat (x10_2 : Int).toNat) t199 false _ A25.out).mono ?_); rintro e w29 ⟨rfl, hb⟩; refine ⟨_, rfl, ?_⟩; have n0_ := Aside0.mk (below_step (by repeat (first | (with_reducible first | exact HB.out | apply below_alloc | apply pw_below_drewN | apply below_drew1) | exact HB.out)) hb); clear HB; have HB := n0_; clear n0_; (try clear hb); (try clear hb2); (try clear hk); (try clear hi)))
               go_ret
               exact ⟨by first | rfl | (simp [errW_none, errW_some] <;> rfl) | (simp [*, errW_none, errW_some] <;> rfl), by repeat (first | (with_reducible first | exact HB.out | apply below_alloc | apply pw_below_drewN | apply below_drew1) | exact HB.out)⟩
             ·rw [if_neg c24] at H
              exact absurd H (by simp)
            ·rw [if_neg c23] at H
             exact absurd H (by simp)
           ·rw [if_neg c22] at H
            exact absurd H (by simp)
       ·rw [if_neg c16] at H
        have c16b0 : decide (x10_2 ≤ (t194.size : Int)) = false := decide_eq_false c16
        clear c16
        obtain rfl := Option.some.inj H
        go_wp2
        go_ret
        exact ⟨by first | rfl | (simp [errW_none, errW_some] <;> rfl) | (simp [*, errW_none, errW_some] <;> rfl), by repeat (first | (with_reducible first | exact HB.out | apply below_alloc | apply pw_below_drewN | apply below_drew1) | exact HB.out)⟩

/-- THE ONE PURE STATEMENT of laws_FnNameWords: yours. -/
def laws_FnNameWords.Pure : Prop := ∀ (l0 : List Int), l0.length ≤ maxLen → l0.length * 1 ≤ 140737488351232 → (∀ x ∈ l0, (Lit.int .u8 x).wf = true) → ∃ k, laws_FnNameWords.f k l0 = some true
theorem laws_FnNameWords.walk (P : laws_FnNameWords.Pure) (a0 : Option Addr) (len0 cap0 : Nat) (z0 : List Int) (w : World) (hS : AmbM w) (w0 : (a0 = none ∧ len0 = 0 ∧ cap0 = 0 ∧ z0 = []) ∨ ∃ x, a0 = some x ∧ len0 ≤ cap0 ∧ cap0 ≤ maxLen ∧ z0.length = cap0 ∧ (∀ i, i < z0.length → w.cell? (x.add i) = some (.int .u8 (z0.getD i 0))) ∧ ∀ n ∈ z0, (Lit.int .u8 n).wf = true) (y0 : len0 * 1 ≤ 140737488351232) :
  Calls Tryd.prog 9 #[.slice a0 len0 cap0] w fun e w' => e = .returned (.bool true) ∧ Below w.heap.size w w' := by
 obtain ⟨l0, rfl, hr0, hm0, hw0, hc0⟩ := ReadsInt.ofRowC w0
 obtain ⟨k, h⟩ := P l0 hm0 y0 hw0
 refine (laws_FnNameWords.calls k _ _ l0 true w (Kd.C_of_reads (d := (0 : Int)) (h1 := fun _ => rfl) hr0) hc0 h).mono ?_
 rintro e w' ⟨rfl, hd⟩
 exact ⟨rfl, hd⟩

end Go.Proofs.YtdkgbemlfajhcaaDoor.PFnNameWords
