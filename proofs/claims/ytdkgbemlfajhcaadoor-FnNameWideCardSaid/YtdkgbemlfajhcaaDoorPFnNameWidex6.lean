-- Written by a program of this session (wip/tool/myprint.py) out of the translation.
import Derived.Test.YtdkgbemlfajhcaaDoorPFnNameWidex0
import Derived.Test.YtdkgbemlfajhcaaDoorPFnNameWidex1
import Derived.Test.YtdkgbemlfajhcaaDoorPFnNameWidex3
import Derived.Test.YtdkgbemlfajhcaaDoorPFnNameWidex5
namespace Go.Proofs.YtdkgbemlfajhcaaDoor.PFnNameWide
open Go.RowKit Go.Proofs.YtdkgbemlfajhcaaDoorW.PrintWords Go.Proofs.YtdkgbemlfajhcaaDoorW.PrintLast Go.Proofs.YtdkgbemlfajhcaaDoorW.PrintMore
attribute [local go_sem] max2_int min2_int max_two min_two max_three min_three max_four min_four   -- for this text's walks alone
set_option linter.unusedVariables false
set_option linter.unusedSimpArgs false

/-! ### laws_FnNameWide: function 7 -/
mutual
def laws_FnNameWide.j0 : Nat → ByteArray → ByteArray → Bool → ByteArray → Bool → Bool → Option (Bool)
 | 0, _, _, _, _, _, _ => none
 | k + 1, x3, x4, x5, x6, x7, x44 => if x44 = true then (if x4.toList = x6.toList then (some (x5 == x7)) else (some false)) else (laws_FnNameWide.l0 k x3 x4 0)
def laws_FnNameWide.l0 : Nat → ByteArray → ByteArray → Int → Option (Bool)
 | 0, _, _, _ => none
 | k + 1, x3, x4, x8 => if x8 < (x3.size : Int) then (if 0 ≤ (wrap64 (x8 + 1)) then (if (wrap64 (x8 + 1)) ≤ (x3.size : Int) then ((impl_CodeWord.f k (x3.extract 0 ((wrap64 (x8 + 1)) : Int).toNat)).bind fun bt183 => (if bt183.2 = true then (if (bt183.1.size : Int) > (x4.size : Int) then (some false) else (if 0 ≤ 2 then (if 2 ≤ (x4.size : Int) then (if (x4.extract 0 2).toList = ([61, 63] : List UInt8) then (laws_FnNameWide.l0 k x3 x4 (wrap64 (x8 + 1))) else (some false)) else (none)) else (none))) else (if 0 ≤ x8 then (if x8 ≤ (x3.size : Int) then ((impl_CodeWord.f k (x3.extract 0 (x8 : Int).toNat)).bind fun bt185 => (if bt185.2 = true then (if 0 ≤ (bt185.1.size : Int) then (if (bt185.1.size : Int) ≤ (x4.size : Int) then (if (x4.extract 0 ((bt185.1.size : Int) : Int).toNat).toList = bt185.1.toList then (some ((x8 == (x3.size : Int)) == ((x4.size : Int) == (bt185.1.size : Int)))) else (some false)) else (none)) else (none)) else (some false))) else (none)) else (none)))) else (none)) else (none)) else (if 0 ≤ x8 then (if x8 ≤ (x3.size : Int) then ((impl_CodeWord.f k (x3.extract 0 (x8 : Int).toNat)).bind fun bt181 => (if bt181.2 = true then (if 0 ≤ (bt181.1.size : Int) then (if (bt181.1.size : Int) ≤ (x4.size : Int) then (if (x4.extract 0 ((bt181.1.size : Int) : Int).toNat).toList = bt181.1.toList then (some ((x8 == (x3.size : Int)) == ((x4.size : Int) == (bt181.1.size : Int)))) else (some false)) else (none)) else (none)) else (some false))) else (none)) else (none))
end
def laws_FnNameWide.f (k : Nat) (l0 : List Int) : Option (Bool) := if (l0.length : Int) > 1048576 then (some true) else ((spec_DrawEncodeName.f k l0).bind fun t175 => ((impl_EncodeName.f k t175).bind fun bt176 => ((spec_EncodeName.f k t175).bind fun bt178 => (if bt176.1.toList = bt178.1.toList then (if (bt176.2 != bt178.2) = true then (laws_FnNameWide.j0 k t175 bt176.1 bt176.2 bt178.1 bt178.2 true) else (if bt176.2 = true then ((impl_NeedsCode.f k t175).bind fun t180 => (laws_FnNameWide.j0 k t175 bt176.1 bt176.2 bt178.1 bt178.2 (!t180))) else (laws_FnNameWide.j0 k t175 bt176.1 bt176.2 bt178.1 bt178.2 true))) else (laws_FnNameWide.j0 k t175 bt176.1 bt176.2 bt178.1 bt178.2 true)))))
theorem laws_FnNameWide.mono_l : ∀ k, (∀ y0 y1 y2 y3 y4 y5, LeO (laws_FnNameWide.j0 k y0 y1 y2 y3 y4 y5) (laws_FnNameWide.j0 (k + 1) y0 y1 y2 y3 y4 y5)) ∧ (∀ y0 y1 y2, LeO (laws_FnNameWide.l0 k y0 y1 y2) (laws_FnNameWide.l0 (k + 1) y0 y1 y2))
 | 0 => ⟨fun _ _ _ _ _ _ r h => by simp [laws_FnNameWide.j0] at h, fun _ _ _ r h => by simp [laws_FnNameWide.l0] at h⟩
 | k + 1 => by
  obtain ⟨ih0, ih1⟩ := laws_FnNameWide.mono_l k
  refine ⟨?_, ?_⟩
  ·intro y0 y1 y2 y3 y4 y5
   unfold laws_FnNameWide.j0
   repeat' first
   | (with_reducible exact ih0 _ _ _ _ _ _)
   | (with_reducible exact ih1 _ _ _)
   | (with_reducible exact impl_CodeWord.mono _ _)
   | (with_reducible exact impl_EncodeName.mono _ _)
   | (with_reducible exact impl_NeedsCode.mono _ _)
   | (with_reducible exact spec_DrawEncodeName.mono _ _)
   | (with_reducible exact spec_EncodeName.mono _ _)
   | (with_reducible exact LeO.refl _)
   | (with_reducible exact LeO.none _)
   | (with_reducible refine LeO.ite ?_ ?_)
   | (with_reducible refine LeO.bind ?_ (fun _ => ?_))
   | exact ih0 _ _ _ _ _ _
   | exact ih1 _ _ _
   | exact impl_CodeWord.mono _ _
   | exact impl_EncodeName.mono _ _
   | exact impl_NeedsCode.mono _ _
   | exact spec_DrawEncodeName.mono _ _
   | exact spec_EncodeName.mono _ _
   | exact LeO.none _
   | refine LeO.ite ?_ ?_
   | refine LeO.bind ?_ (fun _ => ?_)
  ·intro y0 y1 y2
   unfold laws_FnNameWide.l0
   repeat' first
   | (with_reducible exact ih0 _ _ _ _ _ _)
   | (with_reducible exact ih1 _ _ _)
   | (with_reducible exact impl_CodeWord.mono _ _)
   | (with_reducible exact impl_EncodeName.mono _ _)
   | (with_reducible exact impl_NeedsCode.mono _ _)
   | (with_reducible exact spec_DrawEncodeName.mono _ _)
   | (with_reducible exact spec_EncodeName.mono _ _)
   | (with_reducible exact LeO.refl _)
   | (with_reducible exact LeO.none _)
   | (with_reducible refine LeO.ite ?_ ?_)
   | (with_reducible refine LeO.bind ?_ (fun _ => ?_))
   | exact ih0 _ _ _ _ _ _
   | exact ih1 _ _ _
   | exact impl_CodeWord.mono _ _
   | exact impl_EncodeName.mono _ _
   | exact impl_NeedsCode.mono _ _
   | exact spec_DrawEncodeName.mono _ _
   | exact spec_EncodeName.mono _ _
   | exact LeO.none _
   | refine LeO.ite ?_ ?_
   | refine LeO.bind ?_ (fun _ => ?_)
theorem laws_FnNameWide.mono : ∀ a0 k, LeO (laws_FnNameWide.f k a0) (laws_FnNameWide.f (k + 1) a0) := by
 intro a0 k
 obtain ⟨ih0, ih1⟩ := laws_FnNameWide.mono_l k
 unfold laws_FnNameWide.f
 repeat' first
   | (with_reducible exact ih0 _ _ _ _ _ _)
   | (with_reducible exact ih1 _ _ _)
   | (with_reducible exact impl_CodeWord.mono _ _)
   | (with_reducible exact impl_EncodeName.mono _ _)
   | (with_reducible exact impl_NeedsCode.mono _ _)
   | (with_reducible exact spec_DrawEncodeName.mono _ _)
   | (with_reducible exact spec_EncodeName.mono _ _)
   | (with_reducible exact LeO.refl _)
   | (with_reducible exact LeO.none _)
   | (with_reducible refine LeO.ite ?_ ?_)
   | (with_reducible refine LeO.bind ?_ (fun _ => ?_))
   | exact ih0 _ _ _ _ _ _
   | exact ih1 _ _ _
   | exact impl_CodeWord.mono _ _
   | exact impl_EncodeName.mono _ _
   | exact impl_NeedsCode.mono _ _
   | exact spec_DrawEncodeName.mono _ _
   | exact spec_EncodeName.mono _ _
   | exact LeO.none _
   | refine LeO.ite ?_ ?_
   | refine LeO.bind ?_ (fun _ => ?_)
set_option maxHeartbeats 8000000 in
set_option maxRecDepth 100000 in
theorem laws_FnNameWide.calls (k : Nat) (A0 : Option Addr) (c0 : Nat) (l0 : List Int) (r : Bool) (w : World) (hr0 : Kd.C (Kd.int .u8) w A0 l0.length l0) (hc0 : l0.length ≤ c0) (h : laws_FnNameWide.f k l0 = some r) (hS : AmbM w := by repeat (first | (with_reducible assumption) | assumption | (with_reducible apply AmbM.drewN) | (with_reducible apply AmbM.drew) | (with_reducible apply AmbM.alloc) | exact AmbM.below (by assumption) (Aside0.out (by assumption)) | exact AmbM.below (by assumption) (by assumption))) :
  Calls Tryd.prog 7 #[.slice A0 l0.length c0] w fun e w' => e = .returned (.bool r) ∧ Below w.heap.size w w' := by
 have HR0 := Aside0.mk hr0
 have HC0 := Aside0.mk hc0
 clear hr0 hc0
 have HB := Aside0.mk (Below.refl w.heap.size w)
 have H : (if (l0.length : Int) > 1048576 then (some true) else ((spec_DrawEncodeName.f k l0).bind fun t175 => ((impl_EncodeName.f k t175).bind fun bt176 => ((spec_EncodeName.f k t175).bind fun bt178 => (if bt176.1.toList = bt178.1.toList then (if (bt176.2 != bt178.2) = true then (laws_FnNameWide.j0 k t175 bt176.1 bt176.2 bt178.1 bt178.2 true) else (if bt176.2 = true then ((impl_NeedsCode.f k t175).bind fun t180 => (laws_FnNameWide.j0 k t175 bt176.1 bt176.2 bt178.1 bt178.2 (!t180))) else (laws_FnNameWide.j0 k t175 bt176.1 bt176.2 bt178.1 bt178.2 true))) else (laws_FnNameWide.j0 k t175 bt176.1 bt176.2 bt178.1 bt178.2 true)))))) = some r := h
 clear h
 by_cases c2 : (l0.length : Int) > 1048576
 ·rw [if_pos c2] at H
  have c2b0 : decide (1048576 < (l0.length : Int)) = true := decide_eq_true c2
  have c2b1 : decide (1048576 < l0.length) = true := decide_eq_true (by omega)
  clear c2
  obtain rfl := Option.some.inj H
  go_enter Tryd.func7, Tryd.ntmps7
  go_wp2
  go_ret
  exact ⟨by first | rfl | (simp [errW_none, errW_some] <;> rfl) | (simp [*, errW_none, errW_some] <;> rfl), by repeat (first | (with_reducible first | exact HB.out | apply below_alloc | apply pw_below_drewN | apply below_drew1) | exact HB.out)⟩
 ·rw [if_neg c2] at H
  have c2b0 : decide (1048576 < (l0.length : Int)) = false := decide_eq_false c2
  have c2b1 : decide (1048576 < l0.length) = false := decide_eq_false (by omega)
  clear c2
  replace H := Option.bind_eq_some_iff.mp H
  obtain ⟨t175, A30, H⟩ := H
  replace H : ((impl_EncodeName.f k t175).bind fun bt176 => ((spec_EncodeName.f k t175).bind fun bt178 => (if bt176.1.toList = bt178.1.toList then (if (bt176.2 != bt178.2) = true then (laws_FnNameWide.j0 k t175 bt176.1 bt176.2 bt178.1 bt178.2 true) else (if bt176.2 = true then ((impl_NeedsCode.f k t175).bind fun t180 => (laws_FnNameWide.j0 k t175 bt176.1 bt176.2 bt178.1 bt178.2 (!t180))) else (laws_FnNameWide.j0 k t175 bt176.1 bt176.2 bt178.1 bt178.2 true))) else (laws_FnNameWide.j0 k t175 bt176.1 bt176.2 bt178.1 bt178.2 true)))) = some r := H
  have A3 := Aside0.mk A30
  clear A30
  replace H := Option.bind_eq_some_iff.mp H
  obtain ⟨⟨t176, t177⟩, A40, H⟩ := H
  replace H : ((spec_EncodeName.f k t175).bind fun bt178 => (if t176.toList = bt178.1.toList then (if (t177 != bt178.2) = true then (laws_FnNameWide.j0 k t175 t176 t177 bt178.1 bt178.2 true) else (if t177 = true then ((impl_NeedsCode.f k t175).bind fun t180 => (laws_FnNameWide.j0 k t175 t176 t177 bt178.1 bt178.2 (!t180))) else (laws_FnNameWide.j0 k t175 t176 t177 bt178.1 bt178.2 true))) else (laws_FnNameWide.j0 k t175 t176 t177 bt178.1 bt178.2 true))) = some r := H
  have A4 := Aside0.mk A40
  clear A40
  replace H := Option.bind_eq_some_iff.mp H
  obtain ⟨⟨t178, t179⟩, A50, H⟩ := H
  replace H : (if t176.toList = t178.toList then (if (t177 != t179) = true then (laws_FnNameWide.j0 k t175 t176 t177 t178 t179 true) else (if t177 = true then ((impl_NeedsCode.f k t175).bind fun t180 => (laws_FnNameWide.j0 k t175 t176 t177 t178 t179 (!t180))) else (laws_FnNameWide.j0 k t175 t176 t177 t178 t179 true))) else (laws_FnNameWide.j0 k t175 t176 t177 t178 t179 true)) = some r := H
  have A5 := Aside0.mk A50
  clear A50
  have HC6 := Aside0.mk H
  clear H
  go_enter Tryd.func7, Tryd.ntmps7
  go_upto_region 6 with (first | ((with_reducible refine gate_callee (f := 24) rfl ?_); refine goesL_ (some 17) rfl rfl Tryd.func24 (by kernel_rfl) rfl #[.slice A0 l0.length c0] rfl (by (try simp only [List.map_toArray, List.map_cons, List.map_nil]); first | done | rfl | (simp only [List.length_drop, List.length_take]; rfl)) ?_; (with_reducible refine (spec_DrawEncodeName.calls k _ _ l0 t175 _ ?side1 ?side2 A3.out).mono ?_); (case side1 => repeat (first | exact HR0.out | (with_reducible refine Kd.C_alloc ?_ _) | (with_reducible refine Kd.C_drewN ?_ _) | (with_reducible refine Kd.C_drew ?_))); (case side2 => exact HC0.out); rintro e w7 ⟨rfl, hb⟩; refine ⟨_, rfl, ?_⟩; have n0_ := Aside0.mk (below_step (by repeat (first | (with_reducible first | exact HB.out | apply below_alloc | apply pw_below_drewN | apply below_drew1) | exact HB.out)) hb); clear HB; have HB := n0_; clear n0_; (try clear hb); (try clear hb2); (try clear hk); (try clear hi)) | ((with_reducible refine gate_callee (f := 25) rfl ?_); refine goesL_ (some 20) rfl rfl Tryd.func25 (by kernel_rfl) rfl #[.string t175] rfl (by (try simp only [List.map_toArray, List.map_cons, List.map_nil]); first | done | rfl | (simp only [List.length_drop, List.length_take]; rfl)) ?_; (with_reducible refine (impl_EncodeName.calls k t175 t176 t177 _ A4.out).mono ?_); rintro e w8 ⟨rfl, hb⟩; refine ⟨_, rfl, ?_⟩; have n0_ := Aside0.mk (below_step (by repeat (first | (with_reducible first | exact HB.out | apply below_alloc | apply pw_below_drewN | apply below_drew1) | exact HB.out)) hb); clear HB; have HB := n0_; clear n0_; (try clear hb); (try clear hb2); (try clear hk); (try clear hi)) | ((with_reducible refine gate_callee (f := 26) rfl ?_); refine goesL_ (some 25) rfl rfl Tryd.func26 (by kernel_rfl) rfl #[.string t175] rfl (by (try simp only [List.map_toArray, List.map_cons, List.map_nil]); first | done | rfl | (simp only [List.length_drop, List.length_take]; rfl)) ?_; (with_reducible refine (spec_EncodeName.calls k t175 t178 t179 _ A5.out).mono ?_); rintro e w9 ⟨rfl, hb⟩; refine ⟨_, rfl, ?_⟩; have n0_ := Aside0.mk (below_step (by repeat (first | (with_reducible first | exact HB.out | apply below_alloc | apply pw_below_drewN | apply below_drew1) | exact HB.out)) hb); clear HB; have HB := n0_; clear n0_; (try clear hb); (try clear hb2); (try clear hk); (try clear hi)))
  (try simp only [Act.put, List.setIfInBounds_toArray, List.set_cons_zero, List.set_cons_succ])
  go_cut [44] (fun v44 wc => ∃ (kq : Nat) (x44_5 : Bool), v44 = .bool x44_5 ∧ Aside0 (laws_FnNameWide.j0 kq t175 t176 t177 t178 t179 x44_5 = some r) ∧ Aside0 (kq ≤ k) ∧ Aside0 (Below w.heap.size w wc))
  case first =>
   have H := HC6.out
   clear HC6
   by_cases c10 : t176.toList = t178.toList
   ·rw [if_pos c10] at H
    have c10b0 : (t176.toList == t178.toList) = true := beq_iff_eq.mpr c10
    have c10b1 : (t176.toList != t178.toList) = false := bne_eq_false_iff_eq.mpr c10
    clear c10
    (first | rw [c10b0] | (simp only [i64_w, i32_w]; rw [c10b0]) | skip)
    by_cases c11 : (t177 != t179) = true
    ·rw [if_pos c11] at H
     have c11b0 : (t177 != t179) = true := c11
     (try (have c11b1 : decide (t177 = t179) = false := by simpa using c11))
     (try (have c11b2 : (t177 == t179) = false := by simpa using c11))
     (try (have c11b3 : ¬ (t177 = t179) := by simpa using c11))
     clear c11
     have H' := Aside0.mk H
     clear H
     go_wp2
     go_meet
     case rel => exact ⟨_, (true), (by first | rfl | (simp; done) | (simp [*]; done)), H', ⟨by first | omega | exact Nat.le_refl _⟩, ⟨by repeat (first | (with_reducible first | exact HB.out | apply below_alloc | apply pw_below_drewN | apply below_drew1) | exact HB.out)⟩⟩
    ·rw [if_neg c11] at H
     have c11b0 : (t177 != t179) = false := by simpa using c11
     (try (have c11b1 : decide (t177 = t179) = true := by simpa using c11))
     (try (have c11b2 : (t177 == t179) = true := by simpa using c11))
     clear c11
     by_cases c12 : t177 = true
     ·subst c12
      have H1 : ((impl_NeedsCode.f k t175).bind fun t180 => (laws_FnNameWide.j0 k t175 t176 true t178 t179 (!t180))) = some r := by rw [if_pos rfl] at H; exact H
      clear H
      have H := H1
      clear H1
      replace H := Option.bind_eq_some_iff.mp H
      obtain ⟨t180, A130, H⟩ := H
      replace H : (laws_FnNameWide.j0 k t175 t176 true t178 t179 (!t180)) = some r := H
      have A13 := Aside0.mk A130
      clear A130
      have H' := Aside0.mk H
      clear H
      go_wp2_with (first | (go_at_call 27; (with_reducible refine (impl_NeedsCode.calls k t175 t180 _ A13.out).mono ?_); rintro e w' ⟨rfl, ⟨nd, rfl⟩⟩))
      go_meet
      case rel => exact ⟨_, (!t180), (by first | rfl | (simp; done) | (simp [*]; done)), H', ⟨by first | omega | exact Nat.le_refl _⟩, ⟨by repeat (first | (with_reducible first | exact HB.out | apply below_alloc | apply pw_below_drewN | apply below_drew1) | exact HB.out)⟩⟩
     ·replace c12 := Bool.eq_false_iff.mpr c12
      subst c12
      have H1 : (laws_FnNameWide.j0 k t175 t176 false t178 t179 true) = some r := by rw [if_neg (show ¬ (false = true) by decide)] at H; exact H
      clear H
      have H := H1
      clear H1
      have H' := Aside0.mk H
      clear H
      go_wp2
      go_meet
      case rel => exact ⟨_, (true), (by first | rfl | (simp; done) | (simp [*]; done)), H', ⟨by first | omega | exact Nat.le_refl _⟩, ⟨by repeat (first | (with_reducible first | exact HB.out | apply below_alloc | apply pw_below_drewN | apply below_drew1) | exact HB.out)⟩⟩
   ·rw [if_neg c10] at H
    have c10b0 : (t176.toList == t178.toList) = false := beq_eq_false_iff_ne.mpr c10
    have c10b1 : (t176.toList != t178.toList) = true := bne_iff_ne.mpr c10
    (first | rw [c10b0] | (simp only [i64_w, i32_w]; rw [c10b0]) | skip)
    have H' := Aside0.mk H
    clear H
    go_wp2
    go_meet
    case rel => exact ⟨_, (true), (by first | rfl | (simp; done) | (simp [*]; done)), H', ⟨by first | omega | exact Nat.le_refl _⟩, ⟨by repeat (first | (with_reducible first | exact HB.out | apply below_alloc | apply pw_below_drewN | apply below_drew1) | exact HB.out)⟩⟩
  case rest =>
   clear HC6
   try clear c1
   try clear c2
   try clear c2b0
   try clear c2b1
   try clear p2
   try clear c7
   try clear c10
   try clear c10b0
   try clear c10b1
   try clear c11
   try clear c11b0
   try clear c11b1
   try clear c11b2
   try clear c12
   obtain ⟨kq, x44_5, rfl, HA, HJ5, HB⟩ := hcut
   cases kq with
   | zero => exact absurd HA.out (by simp [laws_FnNameWide.j0])
   | succ kj5 =>
    have H := HA.out
    clear HA
    simp only [laws_FnNameWide.j0] at H
    by_cases c14 : x44_5 = true
    ·subst c14
     have H1 : (if t176.toList = t178.toList then (some (t177 == t179)) else (some false)) = some r := by rw [if_pos rfl] at H; exact H
     clear H
     have H := H1
     clear H1
     by_cases c15 : t176.toList = t178.toList
     ·rw [if_pos c15] at H
      have c15b0 : (t176.toList == t178.toList) = true := beq_iff_eq.mpr c15
      have c15b1 : (t176.toList != t178.toList) = false := bne_eq_false_iff_eq.mpr c15
      clear c15
      obtain rfl := Option.some.inj H
      go_wp2
      go_ret
      exact ⟨by first | rfl | (simp [errW_none, errW_some] <;> rfl) | (simp [*, errW_none, errW_some] <;> rfl), by repeat (first | (with_reducible first | exact HB.out | apply below_alloc | apply pw_below_drewN | apply below_drew1) | exact HB.out)⟩
     ·rw [if_neg c15] at H
      have c15b0 : (t176.toList == t178.toList) = false := beq_eq_false_iff_ne.mpr c15
      have c15b1 : (t176.toList != t178.toList) = true := bne_iff_ne.mpr c15
      obtain rfl := Option.some.inj H
      go_wp2
      go_ret
      exact ⟨by first | rfl | (simp [errW_none, errW_some] <;> rfl) | (simp [*, errW_none, errW_some] <;> rfl), by repeat (first | (with_reducible first | exact HB.out | apply below_alloc | apply pw_below_drewN | apply below_drew1) | exact HB.out)⟩
    ·replace c14 := Bool.eq_false_iff.mpr c14
     subst c14
     have H1 : (laws_FnNameWide.l0 kj5 t175 t176 0) = some r := by rw [if_neg (show ¬ (false = true) by decide)] at H; exact H
     clear H
     have H := H1
     clear H1
     have H' := Aside0.mk H
     clear H
     go_wp2
     go_loopg [8] kj5 (fun kq v8 w' => ∃ (x8_2 : Int), v8 = .int .i64 x8_2 ∧ Aside0 (laws_FnNameWide.l0 kq t175 t176 x8_2 = some r) ∧ Aside0 (kq ≤ kj5) ∧ Aside0 (Below w.heap.size w w'))
     case atStart => exact ⟨(0), (by first | rfl | (simp; done) | (simp [*]; done)), H', ⟨Nat.le_refl _⟩, ⟨by repeat (first | (with_reducible first | exact HB.out | apply below_alloc | apply pw_below_drewN | apply below_drew1) | exact HB.out)⟩⟩
     case round =>
      clear H'
      try clear c1
      try clear c2
      try clear c2b0
      try clear c2b1
      try clear p2
      try clear c7
      try clear c10
      try clear c10b0
      try clear c10b1
      try clear c11
      try clear c11b0
      try clear c11b1
      try clear c11b2
      try clear c12
      try clear c14
      try clear c15
      try clear c15b0
      try clear c15b1
      try clear p2
      obtain ⟨x8_2, rfl, HA, HK2, HB⟩ := hrel
      cases gk with
      | zero => exact absurd HA.out (by simp [laws_FnNameWide.l0])
      | succ k2 =>
       have H := HA.out
       clear HA
       simp only [laws_FnNameWide.l0] at H
       by_cases c16 : x8_2 < (t175.size : Int)
       ·rw [if_pos c16] at H
        have c16b0 : decide (x8_2 < (t175.size : Int)) = true := decide_eq_true c16
        clear c16
        obtain ⟨ji17, hji17⟩ : ∃ j_ : Int, (wrap64 (x8_2 + 1)) = j_ := ⟨_, rfl⟩
        replace H : (if 0 ≤ (ji17) then (if (ji17) ≤ (t175.size : Int) then ((impl_CodeWord.f k2 (t175.extract 0 ((ji17) : Int).toNat)).bind fun bt183 => (if bt183.2 = true then (if (bt183.1.size : Int) > (t176.size : Int) then (some false) else (if 0 ≤ 2 then (if 2 ≤ (t176.size : Int) then (if (t176.extract 0 2).toList = ([61, 63] : List UInt8) then (laws_FnNameWide.l0 k2 t175 t176 ji17) else (some false)) else (none)) else (none))) else (if 0 ≤ x8_2 then (if x8_2 ≤ (t175.size : Int) then ((impl_CodeWord.f k2 (t175.extract 0 (x8_2 : Int).toNat)).bind fun bt185 => (if bt185.2 = true then (if 0 ≤ (bt185.1.size : Int) then (if (bt185.1.size : Int) ≤ (t176.size : Int) then (if (t176.extract 0 ((bt185.1.size : Int) : Int).toNat).toList = bt185.1.toList then (some ((x8_2 == (t175.size : Int)) == ((t176.size : Int) == (bt185.1.size : Int)))) else (some false)) else (none)) else (none)) else (some false))) else (none)) else (none)))) else (none)) else (none)) = some r := by first | (rw [hji17] at H; exact H) | (simp only [hji17] at H ⊢; exact H)
        have hji17w : (IntKind.i64.wrap (x8_2 + 1)) = ji17 := (i64_w _).trans hji17
        by_cases c18 : 0 ≤ (ji17)
        ·rw [if_pos c18] at H
         have c18b0 := eq_true c18
         have c18b1 : decide (0 ≤ (ji17)) = true := decide_eq_true c18
         clear c18
         by_cases c19 : (ji17) ≤ (t175.size : Int)
         ·rw [if_pos c19] at H
          have c19b0 := eq_true c19
          have c19b1 : decide ((ji17) ≤ (t175.size : Int)) = true := decide_eq_true c19
          clear c19
          replace H := Option.bind_eq_some_iff.mp H
          obtain ⟨⟨t183, t184⟩, A200, H⟩ := H
          replace H : (if t184 = true then (if (t183.size : Int) > (t176.size : Int) then (some false) else (if 0 ≤ 2 then (if 2 ≤ (t176.size : Int) then (if (t176.extract 0 2).toList = ([61, 63] : List UInt8) then (laws_FnNameWide.l0 k2 t175 t176 ji17) else (some false)) else (none)) else (none))) else (if 0 ≤ x8_2 then (if x8_2 ≤ (t175.size : Int) then ((impl_CodeWord.f k2 (t175.extract 0 (x8_2 : Int).toNat)).bind fun bt185 => (if bt185.2 = true then (if 0 ≤ (bt185.1.size : Int) then (if (bt185.1.size : Int) ≤ (t176.size : Int) then (if (t176.extract 0 ((bt185.1.size : Int) : Int).toNat).toList = bt185.1.toList then (some ((x8_2 == (t175.size : Int)) == ((t176.size : Int) == (bt185.1.size : Int)))) else (some false)) else (none)) else (none)) else (some false))) else (none)) else (none))) = some r := H
          have A20 := Aside0.mk A200
          clear A200
          by_cases c21 : t184 = true
          ·subst c21
           have H1 : (if (t183.size : Int) > (t176.size : Int) then (some false) else (if 0 ≤ 2 then (if 2 ≤ (t176.size : Int) then (if (t176.extract 0 2).toList = ([61, 63] : List UInt8) then (laws_FnNameWide.l0 k2 t175 t176 ji17) else (some false)) else (none)) else (none))) = some r := by rw [if_pos rfl] at H; exact H
           clear H
           have H := H1
           clear H1
           by_cases c22 : (t183.size : Int) > (t176.size : Int)
           ·rw [if_pos c22] at H
            have c22b0 : decide ((t176.size : Int) < (t183.size : Int)) = true := decide_eq_true c22
            have c22b1 : decide (t176.size < t183.size) = true := decide_eq_true (Int.ofNat_lt.mp c22)
            clear c22
            obtain rfl := Option.some.inj H
            go_wp2_with (first | ((with_reducible refine gate_callee (f := 28) rfl ?_); refine goesL_ (some 62) rfl rfl Tryd.func28 (by kernel_rfl) rfl #[.string (t175.extract 0 ((ji17) : Int).toNat)] rfl (by (try simp only [List.map_toArray, List.map_cons, List.map_nil]); first | done | (simp only [hji17]; rfl) | rfl | (simp only [List.length_drop, List.length_take]; rfl)) ?_; (with_reducible refine (impl_CodeWord.calls k2 (t175.extract 0 ((ji17) : Int).toNat) t183 true _ A20.out).mono ?_); rintro e w23 ⟨rfl, hb⟩; refine ⟨_, rfl, ?_⟩; have n0_ := Aside0.mk (below_step (by repeat (first | (with_reducible first | exact HB.out | apply below_alloc | apply pw_below_drewN | apply below_drew1) | exact HB.out)) hb); clear HB; have HB := n0_; clear n0_; (try clear hb); (try clear hb2); (try clear hk); (try clear hi)))
            go_ret
            exact ⟨by first | rfl | (simp [errW_none, errW_some] <;> rfl) | (simp only [← hji17]; first | rfl | (simp [errW_none, errW_some] <;> rfl)) | (simp [*, errW_none, errW_some] <;> rfl), by repeat (first | (with_reducible first | exact HB.out | apply below_alloc | apply pw_below_drewN | apply below_drew1) | exact HB.out)⟩
           ·rw [if_neg c22] at H
            have c22b0 : decide ((t176.size : Int) < (t183.size : Int)) = false := decide_eq_false c22
            have c22b1 : decide (t176.size < t183.size) = false := decide_eq_false (fun h => c22 (Int.ofNat_lt.mpr h))
            clear c22
            by_cases c24 : 0 ≤ 2
            ·rw [if_pos c24] at H
             have c24b0 := eq_true c24
             have c24b1 : decide (0 ≤ 2) = true := decide_eq_true c24
             clear c24
             by_cases c25 : 2 ≤ (t176.size : Int)
             ·rw [if_pos c25] at H
              have c25b0 := eq_true c25
              have c25b1 : decide (2 ≤ (t176.size : Int)) = true := decide_eq_true c25
              clear c25
              by_cases c26 : (t176.extract 0 2).toList = ([61, 63] : List UInt8)
              ·rw [if_pos c26] at H
               have c26b0 : ((t176.extract 0 2).toList == ([61, 63] : List UInt8)) = true := beq_iff_eq.mpr c26
               have c26b1 : ((t176.extract 0 2).toList != ([61, 63] : List UInt8)) = false := bne_eq_false_iff_eq.mpr c26
               clear c26
               have H' := Aside0.mk H
               clear H
               go_wp2_with (first | ((with_reducible refine gate_callee (f := 28) rfl ?_); refine goesL_ (some 62) rfl rfl Tryd.func28 (by kernel_rfl) rfl #[.string (t175.extract 0 ((ji17) : Int).toNat)] rfl (by (try simp only [List.map_toArray, List.map_cons, List.map_nil]); first | done | (simp only [hji17]; rfl) | rfl | (simp only [List.length_drop, List.length_take]; rfl)) ?_; (with_reducible refine (impl_CodeWord.calls k2 (t175.extract 0 ((ji17) : Int).toNat) t183 true _ A20.out).mono ?_); rintro e w27 ⟨rfl, hb⟩; refine ⟨_, rfl, ?_⟩; have n0_ := Aside0.mk (below_step (by repeat (first | (with_reducible first | exact HB.out | apply below_alloc | apply pw_below_drewN | apply below_drew1) | exact HB.out)) hb); clear HB; have HB := n0_; clear n0_; (try clear hb); (try clear hb2); (try clear hk); (try clear hi)))
               go_roundg k2
               case measure => have := HJ5.out; have := HK2.out; omega
               case rel => exact ⟨(ji17), (by first | rfl | (simp; done) | (simp only [← hji17] <;> (first | rfl | simp)) | (simp [*]; done)), H', ⟨by have := HJ5.out; have := HK2.out; omega⟩, ⟨by repeat (first | (with_reducible first | exact HB.out | apply below_alloc | apply pw_below_drewN | apply below_drew1) | exact HB.out)⟩⟩
              ·rw [if_neg c26] at H
               have c26b0 : ((t176.extract 0 2).toList == ([61, 63] : List UInt8)) = false := beq_eq_false_iff_ne.mpr c26
               have c26b1 : ((t176.extract 0 2).toList != ([61, 63] : List UInt8)) = true := bne_iff_ne.mpr c26
               obtain rfl := Option.some.inj H
               go_wp2_with (first | ((with_reducible refine gate_callee (f := 28) rfl ?_); refine goesL_ (some 62) rfl rfl Tryd.func28 (by kernel_rfl) rfl #[.string (t175.extract 0 ((ji17) : Int).toNat)] rfl (by (try simp only [List.map_toArray, List.map_cons, List.map_nil]); first | done | (simp only [hji17]; rfl) | rfl | (simp only [List.length_drop, List.length_take]; rfl)) ?_; (with_reducible refine (impl_CodeWord.calls k2 (t175.extract 0 ((ji17) : Int).toNat) t183 true _ A20.out).mono ?_); rintro e w28 ⟨rfl, hb⟩; refine ⟨_, rfl, ?_⟩; have n0_ := Aside0.mk (below_step (by repeat (first | (with_reducible first | exact HB.out | apply below_alloc | apply pw_below_drewN | apply below_drew1) | exact HB.out)) hb); clear HB; have HB := n0_; clear n0_; (try clear hb); (try clear hb2); (try clear hk); (try clear hi)))
               go_ret
               exact ⟨by first | rfl | (simp [errW_none, errW_some] <;> rfl) | (simp only [← hji17]; first | rfl | (simp [errW_none, errW_some] <;> rfl)) | (simp [*, errW_none, errW_some] <;> rfl), by repeat (first | (with_reducible first | exact HB.out | apply below_alloc | apply pw_below_drewN | apply below_drew1) | exact HB.out)⟩
             ·rw [if_neg c25] at H
              exact absurd H (by simp)
            ·rw [if_neg c24] at H
             exact absurd H (by simp)
          ·replace c21 := Bool.eq_false_iff.mpr c21
           subst c21
           have H1 : (if 0 ≤ x8_2 then (if x8_2 ≤ (t175.size : Int) then ((impl_CodeWord.f k2 (t175.extract 0 (x8_2 : Int).toNat)).bind fun bt185 => (if bt185.2 = true then (if 0 ≤ (bt185.1.size : Int) then (if (bt185.1.size : Int) ≤ (t176.size : Int) then (if (t176.extract 0 ((bt185.1.size : Int) : Int).toNat).toList = bt185.1.toList then (some ((x8_2 == (t175.size : Int)) == ((t176.size : Int) == (bt185.1.size : Int)))) else (some false)) else (none)) else (none)) else (some false))) else (none)) else (none)) = some r := by rw [if_neg (show ¬ (false = true) by decide)] at H; exact H
           clear H
           have H := H1
           clear H1
           by_cases c29 : 0 ≤ x8_2
           ·rw [if_pos c29] at H
            have c29b0 := eq_true c29
            have c29b1 : decide (0 ≤ x8_2) = true := decide_eq_true c29
            clear c29
            by_cases c30 : x8_2 ≤ (t175.size : Int)
            ·rw [if_pos c30] at H
             have c30b0 := eq_true c30
             have c30b1 : decide (x8_2 ≤ (t175.size : Int)) = true := decide_eq_true c30
             clear c30
             replace H := Option.bind_eq_some_iff.mp H
             obtain ⟨⟨t185, t186⟩, A310, H⟩ := H
             replace H : (if t186 = true then (if 0 ≤ (t185.size : Int) then (if (t185.size : Int) ≤ (t176.size : Int) then (if (t176.extract 0 ((t185.size : Int) : Int).toNat).toList = t185.toList then (some ((x8_2 == (t175.size : Int)) == ((t176.size : Int) == (t185.size : Int)))) else (some false)) else (none)) else (none)) else (some false)) = some r := H
             have A31 := Aside0.mk A310
             clear A310
             by_cases c32 : t186 = true
             ·subst c32
              have H1 : (if 0 ≤ (t185.size : Int) then (if (t185.size : Int) ≤ (t176.size : Int) then (if (t176.extract 0 ((t185.size : Int) : Int).toNat).toList = t185.toList then (some ((x8_2 == (t175.size : Int)) == ((t176.size : Int) == (t185.size : Int)))) else (some false)) else (none)) else (none)) = some r := by rw [if_pos rfl] at H; exact H
              clear H
              have H := H1
              clear H1
              by_cases c33 : 0 ≤ (t185.size : Int)
              ·rw [if_pos c33] at H
               have c33b0 := eq_true c33
               have c33b1 : decide (0 ≤ (t185.size : Int)) = true := decide_eq_true c33
               clear c33
               by_cases c34 : (t185.size : Int) ≤ (t176.size : Int)
               ·rw [if_pos c34] at H
                have c34b0 := eq_true c34
                have c34b1 : decide ((t185.size : Int) ≤ (t176.size : Int)) = true := decide_eq_true c34
                clear c34
                by_cases c35 : (t176.extract 0 ((t185.size : Int) : Int).toNat).toList = t185.toList
                ·rw [if_pos c35] at H
                 have c35b0 : ((t176.extract 0 ((t185.size : Int) : Int).toNat).toList == t185.toList) = true := beq_iff_eq.mpr c35
                 (try (have c35b0y : ((t176.extract 0 t185.size).toList == t185.toList) = true := c35b0))
                 have c35b1 : ((t176.extract 0 ((t185.size : Int) : Int).toNat).toList != t185.toList) = false := bne_eq_false_iff_eq.mpr c35
                 (try (have c35b1y : ((t176.extract 0 t185.size).toList != t185.toList) = false := c35b1))
                 clear c35
                 obtain rfl := Option.some.inj H
                 go_wp2_with (first | ((with_reducible refine gate_callee (f := 28) rfl ?_); refine goesL_ (some 62) rfl rfl Tryd.func28 (by kernel_rfl) rfl #[.string (t175.extract 0 ((ji17) : Int).toNat)] rfl (by (try simp only [List.map_toArray, List.map_cons, List.map_nil]); first | done | (simp only [hji17]; rfl) | rfl | (simp only [List.length_drop, List.length_take]; rfl)) ?_; (with_reducible refine (impl_CodeWord.calls k2 (t175.extract 0 ((ji17) : Int).toNat) t183 false _ A20.out).mono ?_); rintro e w36 ⟨rfl, hb⟩; refine ⟨_, rfl, ?_⟩; have n0_ := Aside0.mk (below_step (by repeat (first | (with_reducible first | exact HB.out | apply below_alloc | apply pw_below_drewN | apply below_drew1) | exact HB.out)) hb); clear HB; have HB := n0_; clear n0_; (try clear hb); (try clear hb2); (try clear hk); (try clear hi)) | ((with_reducible refine gate_callee (f := 28) rfl ?_); refine goesL_ (some 83) rfl rfl Tryd.func28 (by kernel_rfl) rfl #[.string (t175.extract 0 (x8_2 : Int).toNat)] rfl (by (try simp only [List.map_toArray, List.map_cons, List.map_nil]); first | done | rfl | (simp only [List.length_drop, List.length_take]; rfl)) ?_; (with_reducible refine (impl_CodeWord.calls k2 (t175.extract 0 (x8_2 : Int).toNat) t185 true _ A31.out).mono ?_); rintro e w37 ⟨rfl, hb⟩; refine ⟨_, rfl, ?_⟩; have n0_ := Aside0.mk (below_step (by repeat (first | (with_reducible first | exact HB.out | apply below_alloc | apply pw_below_drewN | apply below_drew1) | exact HB.out)) hb); clear HB; have HB := n0_; clear n0_; (try clear hb); (try clear hb2); (try clear hk); (try clear hi)))
                 go_ret
                 exact ⟨by first | rfl | (simp [errW_none, errW_some] <;> rfl) | (simp only [← hji17]; first | rfl | (simp [errW_none, errW_some] <;> rfl)) | (simp [*, errW_none, errW_some] <;> rfl), by repeat (first | (with_reducible first | exact HB.out | apply below_alloc | apply pw_below_drewN | apply below_drew1) | exact HB.out)⟩
                ·rw [if_neg c35] at H
                 have c35b0 : ((t176.extract 0 ((t185.size : Int) : Int).toNat).toList == t185.toList) = false := beq_eq_false_iff_ne.mpr c35
                 (try (have c35b0y : ((t176.extract 0 t185.size).toList == t185.toList) = false := c35b0))
                 have c35b1 : ((t176.extract 0 ((t185.size : Int) : Int).toNat).toList != t185.toList) = true := bne_iff_ne.mpr c35
                 (try (have c35b1y : ((t176.extract 0 t185.size).toList != t185.toList) = true := c35b1))
                 obtain rfl := Option.some.inj H
                 go_wp2_with (first | ((with_reducible refine gate_callee (f := 28) rfl ?_); refine goesL_ (some 62) rfl rfl Tryd.func28 (by kernel_rfl) rfl #[.string (t175.extract 0 ((ji17) : Int).toNat)] rfl (by (try simp only [List.map_toArray, List.map_cons, List.map_nil]); first | done | (simp only [hji17]; rfl) | rfl | (simp only [List.length_drop, List.length_take]; rfl)) ?_; (with_reducible refine (impl_CodeWord.calls k2 (t175.extract 0 ((ji17) : Int).toNat) t183 false _ A20.out).mono ?_); rintro e w38 ⟨rfl, hb⟩; refine ⟨_, rfl, ?_⟩; have n0_ := Aside0.mk (below_step (by repeat (first | (with_reducible first | exact HB.out | apply below_alloc | apply pw_below_drewN | apply below_drew1) | exact HB.out)) hb); clear HB; have HB := n0_; clear n0_; (try clear hb); (try clear hb2); (try clear hk); (try clear hi)) | ((with_reducible refine gate_callee (f := 28) rfl ?_); refine goesL_ (some 83) rfl rfl Tryd.func28 (by kernel_rfl) rfl #[.string (t175.extract 0 (x8_2 : Int).toNat)] rfl (by (try simp only [List.map_toArray, List.map_cons, List.map_nil]); first | done | rfl | (simp only [List.length_drop, List.length_take]; rfl)) ?_; (with_reducible refine (impl_CodeWord.calls k2 (t175.extract 0 (x8_2 : Int).toNat) t185 true _ A31.out).mono ?_); rintro e w39 ⟨rfl, hb⟩; refine ⟨_, rfl, ?_⟩; have n0_ := Aside0.mk (below_step (by repeat (first | (with_reducible first | exact HB.out | apply below_alloc | apply pw_below_drewN | apply below_drew1) | exact HB.out)) hb); clear HB; have HB := n0_; clear n0_; (try clear hb); (try clear hb2); (try clear hk); (try clear hi)))
                 go_ret
                 exact ⟨by first | rfl | (simp [errW_none, errW_some] <;> rfl) | (simp only [← hji17]; first | rfl | (simp [errW_none, errW_some] <;> rfl)) | (simp [*, errW_none, errW_some] <;> rfl), by repeat (first | (with_reducible first | exact HB.out | apply below_alloc | apply pw_below_drewN | apply below_drew1) | exact HB.out)⟩
               ·rw [if_neg c34] at H
                exact absurd H (by simp)
              ·rw [if_neg c33] at H
               exact absurd H (by simp)
             ·replace c32 := Bool.eq_false_iff.mpr c32
              subst c32
              have H1 : (some false) = some r := by rw [if_neg (show ¬ (false = true) by decide)] at H; exact H
              clear H
              have H := H1
              clear H1
              obtain rfl := Option.some.inj H
              go_wp2_with (first | ((with_reducible refine gate_callee (f := 28) rfl ?_); refine goesL_ (some 62) rfl rfl Tryd.func28 (by kernel_rfl) rfl #[.string (t175.extract 0 ((ji17) : Int).toNat)] rfl (by (try simp only [List.map_toArray, List.map_cons, List.map_nil]); first | done | (simp only [hji17]; rfl) | rfl | (simp only [List.length_drop, List.length_take]; rfl)) ?_; (with_reducible refine (impl_CodeWord.calls k2 (t175.extract 0 ((ji17) : Int).toNat) t183 false _ A20.out).mono ?_); rintro e w40 ⟨rfl, hb⟩; refine ⟨_, rfl, ?_⟩; have n0_ := Aside0.mk (below_step (by repeat (first | (with_reducible first | exact HB.out | apply below_alloc | apply pw_below_drewN | apply below_drew1) | exact HB.out)) hb); clear HB; have HB := n0_; clear n0_; (try clear hb); (try clear hb2); (try clear hk); (try clear hi)) | ((with_reducible refine gate_callee (f := 28) rfl ?_); refine goesL_ (some 83) rfl rfl Tryd.func28 (by kernel_rfl) rfl #[.string (t175.extract 0 (x8_2 : Int).toNat)] rfl (by (try simp only [List.map_toArray, List.map_cons, List.map_nil]); first | done | rfl | (simp only [List.length_drop, List.length_take]; rfl)) ?_; (with_reducible refine (impl_CodeWord.calls k2 (t175.extract 0 (x8_2 : Int).toNat) t185 false _ A31.out).mono ?_); rintro e w41 ⟨rfl, hb⟩; refine ⟨_, rfl, ?_⟩; have n0_ := Aside0.mk (below_step (by repeat (first | (with_reducible first | exact HB.out | apply below_alloc | apply pw_below_drewN | apply below_drew1) | exact HB.out)) hb); clear HB; have HB := n0_; clear n0_; (try clear hb); (try clear hb2); (try clear hk); (try clear hi)))
              go_ret
              exact ⟨by first | rfl | (simp [errW_none, errW_some] <;> rfl) | (simp only [← hji17]; first | rfl | (simp [errW_none, errW_some] <;> rfl)) | (simp [*, errW_none, errW_some] <;> rfl), by repeat (first | (with_reducible first | exact HB.out | apply below_alloc | apply pw_below_drewN | apply below_drew1) | exact HB.out)⟩
            ·rw [if_neg c30] at H
             exact absurd H (by simp)
           ·rw [if_neg c29] at H
            exact absurd H (by simp)
         ·rw [if_neg c19] at H
          exact absurd H (by simp)
        ·rw [if_neg c18] at H
         exact absurd H (by simp)
       ·rw [if_neg c16] at H
        have c16b0 : decide (x8_2 < (t175.size : Int)) = false := decide_eq_false c16
        clear c16
        by_cases c42 : 0 ≤ x8_2
        ·rw [if_pos c42] at H
         have c42b0 := eq_true c42
         have c42b1 : decide (0 ≤ x8_2) = true := decide_eq_true c42
         clear c42
         by_cases c43 : x8_2 ≤ (t175.size : Int)
         ·rw [if_pos c43] at H
          have c43b0 := eq_true c43
          have c43b1 : decide (x8_2 ≤ (t175.size : Int)) = true := decide_eq_true c43
          clear c43
          replace H := Option.bind_eq_some_iff.mp H
          obtain ⟨⟨t181, t182⟩, A440, H⟩ := H
          replace H : (if t182 = true then (if 0 ≤ (t181.size : Int) then (if (t181.size : Int) ≤ (t176.size : Int) then (if (t176.extract 0 ((t181.size : Int) : Int).toNat).toList = t181.toList then (some ((x8_2 == (t175.size : Int)) == ((t176.size : Int) == (t181.size : Int)))) else (some false)) else (none)) else (none)) else (some false)) = some r := H
          have A44 := Aside0.mk A440
          clear A440
          by_cases c45 : t182 = true
          ·subst c45
           have H1 : (if 0 ≤ (t181.size : Int) then (if (t181.size : Int) ≤ (t176.size : Int) then (if (t176.extract 0 ((t181.size : Int) : Int).toNat).toList = t181.toList then (some ((x8_2 == (t175.size : Int)) == ((t176.size : Int) == (t181.size : Int)))) else (some false)) else (none)) else (none)) = some r := by rw [if_pos rfl] at H; exact H
           clear H
           have H := H1
           clear H1
           by_cases c46 : 0 ≤ (t181.size : Int)
           ·rw [if_pos c46] at H
            have c46b0 := eq_true c46
            have c46b1 : decide (0 ≤ (t181.size : Int)) = true := decide_eq_true c46
            clear c46
            by_cases c47 : (t181.size : Int) ≤ (t176.size : Int)
            ·rw [if_pos c47] at H
             have c47b0 := eq_true c47
             have c47b1 : decide ((t181.size : Int) ≤ (t176.size : Int)) = true := decide_eq_true c47
             clear c47
             by_cases c48 : (t176.extract 0 ((t181.size : Int) : Int).toNat).toList = t181.toList
             ·rw [if_pos c48] at H
              have c48b0 : ((t176.extract 0 ((t181.size : Int) : Int).toNat).toList == t181.toList) = true := beq_iff_eq.mpr c48
              (try (have c48b0y : ((t176.extract 0 t181.size).toList == t181.toList) = true := c48b0))
              have c48b1 : ((t176.extract 0 ((t181.size : Int) : Int).toNat).toList != t181.toList) = false := bne_eq_false_iff_eq.mpr c48
              (try (have c48b1y : ((t176.extract 0 t181.size).toList != t181.toList) = false := c48b1))
              clear c48
              obtain rfl := Option.some.inj H
              go_wp2_with (first | ((with_reducible refine gate_callee (f := 28) rfl ?_); refine goesL_ (some 83) rfl rfl Tryd.func28 (by kernel_rfl) rfl #[.string (t175.extract 0 (x8_2 : Int).toNat)] rfl (by (try simp only [List.map_toArray, List.map_cons, List.map_nil]); first | done | rfl | (simp only [List.length_drop, List.length_take]; rfl)) ?_; (with_reducible refine (impl_CodeWord.calls k2 (t175.extract 0 (x8_2 : Int).toNat) t181 true _ A44.out).mono ?_); rintro e w49 ⟨rfl, hb⟩; refine ⟨_, rfl, ?_⟩; have n0_ := Aside0.mk (below_step (by repeat (first | (with_reducible first | exact HB.out | apply below_alloc | apply pw_below_drewN | apply below_drew1) | exact HB.out)) hb); clear HB; have HB := n0_; clear n0_; (try clear hb); (try clear hb2); (try clear hk); (try clear hi)))
              go_ret
              exact ⟨by first | rfl | (simp [errW_none, errW_some] <;> rfl) | (simp [*, errW_none, errW_some] <;> rfl), by repeat (first | (with_reducible first | exact HB.out | apply below_alloc | apply pw_below_drewN | apply below_drew1) | exact HB.out)⟩
             ·rw [if_neg c48] at H
              have c48b0 : ((t176.extract 0 ((t181.size : Int) : Int).toNat).toList == t181.toList) = false := beq_eq_false_iff_ne.mpr c48
              (try (have c48b0y : ((t176.extract 0 t181.size).toList == t181.toList) = false := c48b0))
              have c48b1 : ((t176.extract 0 ((t181.size : Int) : Int).toNat).toList != t181.toList) = true := bne_iff_ne.mpr c48
              (try (have c48b1y : ((t176.extract 0 t181.size).toList != t181.toList) = true := c48b1))
              obtain rfl := Option.some.inj H
              go_wp2_with (first | ((with_reducible refine gate_callee (f := 28) rfl ?_); refine goesL_ (some 83) rfl rfl Tryd.func28 (by kernel_rfl) rfl #[.string (t175.extract 0 (x8_2 : Int).toNat)] rfl (by (try simp only [List.map_toArray, List.map_cons, List.map_nil]); first | done | rfl | (simp only [List.length_drop, List.length_take]; rfl)) ?_; (with_reducible refine (impl_CodeWord.calls k2 (t175.extract 0 (x8_2 : Int).toNat) t181 true _ A44.out).mono ?_); rintro e w50 ⟨rfl, hb⟩; refine ⟨_, rfl, ?_⟩; have n0_ := Aside0.mk (below_step (by repeat (first | (with_reducible first | exact HB.out | apply below_alloc | apply pw_below_drewN | apply below_drew1) | exact HB.out)) hb); clear HB; have HB := n0_; clear n0_; (try clear hb); (try clear hb2); (try clear hk); (try clear hi)))
              go_ret
              exact ⟨by first | rfl | (simp [errW_none, errW_some] <;> rfl) | (simp [*, errW_none, errW_some] <;> rfl), by repeat (first | (with_reducible first | exact HB.out | apply below_alloc | apply pw_below_drewN | apply below_drew1) | exact HB.out)⟩
            ·rw [if_neg c47] at H
             exact absurd H (by simp)
           ·rw [if_neg c46] at H
            exact absurd H (by simp)
          ·replace c45 := Bool.eq_false_iff.mpr c45
           subst c45
           have H1 : (some false) = some r := by rw [if_neg (show ¬ (false = true) by decide)] at H; exact H
           clear H
           have H := H1
           clear H1
           obtain rfl := Option.some.inj H
           go_wp2_with (first | ((with_reducible refine gate_callee (f := 28) rfl ?_); refine goesL_ (some 83) rfl rfl Tryd.func28 (by kernel_rfl) rfl #[.string (t175.extract 0 (x8_2 : Int).toNat)] rfl (by (try simp only [List.map_toArray, List.map_cons, List.map_nil]); first | done | rfl | (simp only [List.length_drop, List.length_take]; rfl)) ?_; (with_reducible refine (impl_CodeWord.calls k2 (t175.extract 0 (x8_2 : Int).toNat) t181 false _ A44.out).mono ?_); rintro e w51 ⟨rfl, hb⟩; refine ⟨_, rfl, ?_⟩; have n0_ := Aside0.mk (below_step (by repeat (first | (with_reducible first | exact HB.out | apply below_alloc | apply pw_below_drewN | apply below_drew1) | exact HB.out)) hb); clear HB; have HB := n0_; clear n0_; (try clear hb); (try clear hb2); (try clear hk); (try clear hi)))
           go_ret
           exact ⟨by first | rfl | (simp [errW_none, errW_some] <;> rfl) | (simp [*, errW_none, errW_some] <;> rfl), by repeat (first | (with_reducible first | exact HB.out | apply below_alloc | apply pw_below_drewN | apply below_drew1) | exact HB.out)⟩
         ·rw [if_neg c43] at H
          exact absurd H (by simp)
        ·rw [if_neg c42] at H
         exact absurd H (by simp)

/-- THE ONE PURE STATEMENT of laws_FnNameWide: yours. -/
def laws_FnNameWide.Pure : Prop := ∀ (l0 : List Int), l0.length ≤ maxLen → l0.length * 1 ≤ 140737488351232 → (∀ x ∈ l0, (Lit.int .u8 x).wf = true) → ∃ k, laws_FnNameWide.f k l0 = some true
theorem laws_FnNameWide.walk (P : laws_FnNameWide.Pure) (a0 : Option Addr) (len0 cap0 : Nat) (z0 : List Int) (w : World) (hS : AmbM w) (w0 : (a0 = none ∧ len0 = 0 ∧ cap0 = 0 ∧ z0 = []) ∨ ∃ x, a0 = some x ∧ len0 ≤ cap0 ∧ cap0 ≤ maxLen ∧ z0.length = cap0 ∧ (∀ i, i < z0.length → w.cell? (x.add i) = some (.int .u8 (z0.getD i 0))) ∧ ∀ n ∈ z0, (Lit.int .u8 n).wf = true) (y0 : len0 * 1 ≤ 140737488351232) :
  Calls Tryd.prog 7 #[.slice a0 len0 cap0] w fun e w' => e = .returned (.bool true) ∧ Below w.heap.size w w' := by
 obtain ⟨l0, rfl, hr0, hm0, hw0, hc0⟩ := ReadsInt.ofRowC w0
 obtain ⟨k, h⟩ := P l0 hm0 y0 hw0
 refine (laws_FnNameWide.calls k _ _ l0 true w (Kd.C_of_reads (d := (0 : Int)) (h1 := fun _ => rfl) hr0) hc0 h).mono ?_
 rintro e w' ⟨rfl, hd⟩
 exact ⟨rfl, hd⟩

end Go.Proofs.YtdkgbemlfajhcaaDoor.PFnNameWide
