-- Written by a program of this session (wip/tool/myprint.py) out of the translation.
import Derived.Test.YtdkgbemlfajhcaaDoorPFnNameTextx0
import Derived.Test.YtdkgbemlfajhcaaDoorPFnNameTextx1
import Derived.Test.YtdkgbemlfajhcaaDoorPFnNameTextx3
import Derived.Test.YtdkgbemlfajhcaaDoorPFnNameTextx5
namespace Go.Proofs.YtdkgbemlfajhcaaDoor.PFnNameText
open Go.RowKit Go.Proofs.YtdkgbemlfajhcaaDoorW.PrintWords Go.Proofs.YtdkgbemlfajhcaaDoorW.PrintLast Go.Proofs.YtdkgbemlfajhcaaDoorW.PrintMore
attribute [local go_sem] max2_int min2_int max_two min_two max_three min_three max_four min_four   -- for this text's walks alone
set_option linter.unusedVariables false
set_option linter.unusedSimpArgs false

/-! ### laws_FnNameText: function 6 -/
mutual
def laws_FnNameText.j0 : Nat → ByteArray → Bool → ByteArray → Bool → Bool → Option (Bool)
 | 0, _, _, _, _, _ => none
 | k + 1, x4, x5, x6, x7, x40 => if x40 = true then (if x4.toList = x6.toList then (some (x5 == x7)) else (some false)) else (laws_FnNameText.l0 k x4 0)
def laws_FnNameText.l0 : Nat → ByteArray → Int → Option (Bool)
 | 0, _, _ => none
 | k + 1, x4, x8 => if x8 < (x4.size : Int) then (if 0 ≤ x8 then (if (bt x4 x8) < 32 then (some false) else (if (bt x4 x8) > 126 then (some false) else (laws_FnNameText.l0 k x4 (wrap64 (x8 + 1))))) else (none)) else (if (x4.size : Int) ≥ 13 then (if 0 ≤ 2 then (if 2 ≤ (x4.size : Int) then (if (x4.extract 0 2).toList = ([61, 63] : List UInt8) then (if 0 ≤ (wrap64 ((x4.size : Int) - 2)) then (if (wrap64 ((x4.size : Int) - 2)) ≤ (x4.size : Int) then (some ((x4.extract ((wrap64 ((x4.size : Int) - 2)) : Int).toNat x4.size).toList == ([63, 61] : List UInt8))) else (none)) else (none)) else (some false)) else (none)) else (none)) else (some false))
end
def laws_FnNameText.f (k : Nat) (l0 : List Int) : Option (Bool) := if (l0.length : Int) > 1048576 then (some true) else ((spec_DrawEncodeName.f k l0).bind fun t173 => ((impl_EncodeName.f k t173).bind fun bt174 => ((spec_EncodeName.f k t173).bind fun bt176 => (if bt174.1.toList = bt176.1.toList then (if (bt174.2 != bt176.2) = true then (laws_FnNameText.j0 k bt174.1 bt174.2 bt176.1 bt176.2 true) else (if bt174.2 = true then ((impl_NeedsCode.f k t173).bind fun t178 => (laws_FnNameText.j0 k bt174.1 bt174.2 bt176.1 bt176.2 (!t178))) else (laws_FnNameText.j0 k bt174.1 bt174.2 bt176.1 bt176.2 true))) else (laws_FnNameText.j0 k bt174.1 bt174.2 bt176.1 bt176.2 true)))))
theorem laws_FnNameText.mono_l : ∀ k, (∀ y0 y1 y2 y3 y4, LeO (laws_FnNameText.j0 k y0 y1 y2 y3 y4) (laws_FnNameText.j0 (k + 1) y0 y1 y2 y3 y4)) ∧ (∀ y0 y1, LeO (laws_FnNameText.l0 k y0 y1) (laws_FnNameText.l0 (k + 1) y0 y1))
 | 0 => ⟨fun _ _ _ _ _ r h => by simp [laws_FnNameText.j0] at h, fun _ _ r h => by simp [laws_FnNameText.l0] at h⟩
 | k + 1 => by
  obtain ⟨ih0, ih1⟩ := laws_FnNameText.mono_l k
  refine ⟨?_, ?_⟩
  ·intro y0 y1 y2 y3 y4
   unfold laws_FnNameText.j0
   repeat' first
   | (with_reducible exact ih0 _ _ _ _ _)
   | (with_reducible exact ih1 _ _)
   | (with_reducible exact impl_EncodeName.mono _ _)
   | (with_reducible exact impl_NeedsCode.mono _ _)
   | (with_reducible exact spec_DrawEncodeName.mono _ _)
   | (with_reducible exact spec_EncodeName.mono _ _)
   | (with_reducible exact LeO.refl _)
   | (with_reducible exact LeO.none _)
   | (with_reducible refine LeO.ite ?_ ?_)
   | (with_reducible refine LeO.bind ?_ (fun _ => ?_))
   | exact ih0 _ _ _ _ _
   | exact ih1 _ _
   | exact impl_EncodeName.mono _ _
   | exact impl_NeedsCode.mono _ _
   | exact spec_DrawEncodeName.mono _ _
   | exact spec_EncodeName.mono _ _
   | exact LeO.none _
   | refine LeO.ite ?_ ?_
   | refine LeO.bind ?_ (fun _ => ?_)
  ·intro y0 y1
   unfold laws_FnNameText.l0
   repeat' first
   | (with_reducible exact ih0 _ _ _ _ _)
   | (with_reducible exact ih1 _ _)
   | (with_reducible exact impl_EncodeName.mono _ _)
   | (with_reducible exact impl_NeedsCode.mono _ _)
   | (with_reducible exact spec_DrawEncodeName.mono _ _)
   | (with_reducible exact spec_EncodeName.mono _ _)
   | (with_reducible exact LeO.refl _)
   | (with_reducible exact LeO.none _)
   | (with_reducible refine LeO.ite ?_ ?_)
   | (with_reducible refine LeO.bind ?_ (fun _ => ?_))
   | exact ih0 _ _ _ _ _
   | exact ih1 _ _
   | exact impl_EncodeName.mono _ _
   | exact impl_NeedsCode.mono _ _
   | exact spec_DrawEncodeName.mono _ _
   | exact spec_EncodeName.mono _ _
   | exact LeO.none _
   | refine LeO.ite ?_ ?_
   | refine LeO.bind ?_ (fun _ => ?_)
theorem laws_FnNameText.mono : ∀ a0 k, LeO (laws_FnNameText.f k a0) (laws_FnNameText.f (k + 1) a0) := by
 intro a0 k
 obtain ⟨ih0, ih1⟩ := laws_FnNameText.mono_l k
 unfold laws_FnNameText.f
 repeat' first
   | (with_reducible exact ih0 _ _ _ _ _)
   | (with_reducible exact ih1 _ _)
   | (with_reducible exact impl_EncodeName.mono _ _)
   | (with_reducible exact impl_NeedsCode.mono _ _)
   | (with_reducible exact spec_DrawEncodeName.mono _ _)
   | (with_reducible exact spec_EncodeName.mono _ _)
   | (with_reducible exact LeO.refl _)
   | (with_reducible exact LeO.none _)
   | (with_reducible refine LeO.ite ?_ ?_)
   | (with_reducible refine LeO.bind ?_ (fun _ => ?_))
   | exact ih0 _ _ _ _ _
   | exact ih1 _ _
   | exact impl_EncodeName.mono _ _
   | exact impl_NeedsCode.mono _ _
   | exact spec_DrawEncodeName.mono _ _
   | exact spec_EncodeName.mono _ _
   | exact LeO.none _
   | refine LeO.ite ?_ ?_
   | refine LeO.bind ?_ (fun _ => ?_)
set_option maxHeartbeats 8000000 in
set_option maxRecDepth 100000 in
theorem laws_FnNameText.calls (k : Nat) (A0 : Option Addr) (c0 : Nat) (l0 : List Int) (r : Bool) (w : World) (hr0 : Kd.C (Kd.int .u8) w A0 l0.length l0) (hc0 : l0.length ≤ c0) (h : laws_FnNameText.f k l0 = some r) (hS : AmbM w := by repeat (first | (with_reducible assumption) | assumption | (with_reducible apply AmbM.drewN) | (with_reducible apply AmbM.drew) | (with_reducible apply AmbM.alloc) | exact AmbM.below (by assumption) (Aside0.out (by assumption)) | exact AmbM.below (by assumption) (by assumption))) :
  Calls Tryd.prog 6 #[.slice A0 l0.length c0] w fun e w' => e = .returned (.bool r) ∧ Below w.heap.size w w' := by
 have HR0 := Aside0.mk hr0
 have HC0 := Aside0.mk hc0
 clear hr0 hc0
 have HB := Aside0.mk (Below.refl w.heap.size w)
 have H : (if (l0.length : Int) > 1048576 then (some true) else ((spec_DrawEncodeName.f k l0).bind fun t173 => ((impl_EncodeName.f k t173).bind fun bt174 => ((spec_EncodeName.f k t173).bind fun bt176 => (if bt174.1.toList = bt176.1.toList then (if (bt174.2 != bt176.2) = true then (laws_FnNameText.j0 k bt174.1 bt174.2 bt176.1 bt176.2 true) else (if bt174.2 = true then ((impl_NeedsCode.f k t173).bind fun t178 => (laws_FnNameText.j0 k bt174.1 bt174.2 bt176.1 bt176.2 (!t178))) else (laws_FnNameText.j0 k bt174.1 bt174.2 bt176.1 bt176.2 true))) else (laws_FnNameText.j0 k bt174.1 bt174.2 bt176.1 bt176.2 true)))))) = some r := h
 clear h
 by_cases c2 : (l0.length : Int) > 1048576
 ·rw [if_pos c2] at H
  have c2b0 : decide (1048576 < (l0.length : Int)) = true := decide_eq_true c2
  have c2b1 : decide (1048576 < l0.length) = true := decide_eq_true (by omega)
  clear c2
  obtain rfl := Option.some.inj H
  go_enter Tryd.func6, Tryd.ntmps6
  go_wp2
  go_ret
  exact ⟨by first | rfl | (simp [errW_none, errW_some] <;> rfl) | (simp [*, errW_none, errW_some] <;> rfl), by repeat (first | (with_reducible first | exact HB.out | apply below_alloc | apply pw_below_drewN | apply below_drew1) | exact HB.out)⟩
 ·rw [if_neg c2] at H
  have c2b0 : decide (1048576 < (l0.length : Int)) = false := decide_eq_false c2
  have c2b1 : decide (1048576 < l0.length) = false := decide_eq_false (by omega)
  clear c2
  replace H := Option.bind_eq_some_iff.mp H
  obtain ⟨t173, A30, H⟩ := H
  replace H : ((impl_EncodeName.f k t173).bind fun bt174 => ((spec_EncodeName.f k t173).bind fun bt176 => (if bt174.1.toList = bt176.1.toList then (if (bt174.2 != bt176.2) = true then (laws_FnNameText.j0 k bt174.1 bt174.2 bt176.1 bt176.2 true) else (if bt174.2 = true then ((impl_NeedsCode.f k t173).bind fun t178 => (laws_FnNameText.j0 k bt174.1 bt174.2 bt176.1 bt176.2 (!t178))) else (laws_FnNameText.j0 k bt174.1 bt174.2 bt176.1 bt176.2 true))) else (laws_FnNameText.j0 k bt174.1 bt174.2 bt176.1 bt176.2 true)))) = some r := H
  have A3 := Aside0.mk A30
  clear A30
  replace H := Option.bind_eq_some_iff.mp H
  obtain ⟨⟨t174, t175⟩, A40, H⟩ := H
  replace H : ((spec_EncodeName.f k t173).bind fun bt176 => (if t174.toList = bt176.1.toList then (if (t175 != bt176.2) = true then (laws_FnNameText.j0 k t174 t175 bt176.1 bt176.2 true) else (if t175 = true then ((impl_NeedsCode.f k t173).bind fun t178 => (laws_FnNameText.j0 k t174 t175 bt176.1 bt176.2 (!t178))) else (laws_FnNameText.j0 k t174 t175 bt176.1 bt176.2 true))) else (laws_FnNameText.j0 k t174 t175 bt176.1 bt176.2 true))) = some r := H
  have A4 := Aside0.mk A40
  clear A40
  replace H := Option.bind_eq_some_iff.mp H
  obtain ⟨⟨t176, t177⟩, A50, H⟩ := H
  replace H : (if t174.toList = t176.toList then (if (t175 != t177) = true then (laws_FnNameText.j0 k t174 t175 t176 t177 true) else (if t175 = true then ((impl_NeedsCode.f k t173).bind fun t178 => (laws_FnNameText.j0 k t174 t175 t176 t177 (!t178))) else (laws_FnNameText.j0 k t174 t175 t176 t177 true))) else (laws_FnNameText.j0 k t174 t175 t176 t177 true)) = some r := H
  have A5 := Aside0.mk A50
  clear A50
  have HC6 := Aside0.mk H
  clear H
  go_enter Tryd.func6, Tryd.ntmps6
  go_upto_region 6 with (first | ((with_reducible refine gate_callee (f := 24) rfl ?_); refine goesL_ (some 13) rfl rfl Tryd.func24 (by kernel_rfl) rfl #[.slice A0 l0.length c0] rfl (by (try simp only [List.map_toArray, List.map_cons, List.map_nil]); first | done | rfl | (simp only [List.length_drop, List.length_take]; rfl)) ?_; (with_reducible refine (spec_DrawEncodeName.calls k _ _ l0 t173 _ ?side1 ?side2 A3.out).mono ?_); (case side1 => repeat (first | exact HR0.out | (with_reducible refine Kd.C_alloc ?_ _) | (with_reducible refine Kd.C_drewN ?_ _) | (with_reducible refine Kd.C_drew ?_))); (case side2 => exact HC0.out); rintro e w7 ⟨rfl, hb⟩; refine ⟨_, rfl, ?_⟩; have n0_ := Aside0.mk (below_step (by repeat (first | (with_reducible first | exact HB.out | apply below_alloc | apply pw_below_drewN | apply below_drew1) | exact HB.out)) hb); clear HB; have HB := n0_; clear n0_; (try clear hb); (try clear hb2); (try clear hk); (try clear hi)) | ((with_reducible refine gate_callee (f := 25) rfl ?_); refine goesL_ (some 16) rfl rfl Tryd.func25 (by kernel_rfl) rfl #[.string t173] rfl (by (try simp only [List.map_toArray, List.map_cons, List.map_nil]); first | done | rfl | (simp only [List.length_drop, List.length_take]; rfl)) ?_; (with_reducible refine (impl_EncodeName.calls k t173 t174 t175 _ A4.out).mono ?_); rintro e w8 ⟨rfl, hb⟩; refine ⟨_, rfl, ?_⟩; have n0_ := Aside0.mk (below_step (by repeat (first | (with_reducible first | exact HB.out | apply below_alloc | apply pw_below_drewN | apply below_drew1) | exact HB.out)) hb); clear HB; have HB := n0_; clear n0_; (try clear hb); (try clear hb2); (try clear hk); (try clear hi)) | ((with_reducible refine gate_callee (f := 26) rfl ?_); refine goesL_ (some 21) rfl rfl Tryd.func26 (by kernel_rfl) rfl #[.string t173] rfl (by (try simp only [List.map_toArray, List.map_cons, List.map_nil]); first | done | rfl | (simp only [List.length_drop, List.length_take]; rfl)) ?_; (with_reducible refine (spec_EncodeName.calls k t173 t176 t177 _ A5.out).mono ?_); rintro e w9 ⟨rfl, hb⟩; refine ⟨_, rfl, ?_⟩; have n0_ := Aside0.mk (below_step (by repeat (first | (with_reducible first | exact HB.out | apply below_alloc | apply pw_below_drewN | apply below_drew1) | exact HB.out)) hb); clear HB; have HB := n0_; clear n0_; (try clear hb); (try clear hb2); (try clear hk); (try clear hi)))
  (try simp only [Act.put, List.setIfInBounds_toArray, List.set_cons_zero, List.set_cons_succ])
  go_cut [40] (fun v40 wc => ∃ (kq : Nat) (x40_5 : Bool), v40 = .bool x40_5 ∧ Aside0 (laws_FnNameText.j0 kq t174 t175 t176 t177 x40_5 = some r) ∧ Aside0 (kq ≤ k) ∧ Aside0 (Below w.heap.size w wc))
  case first =>
   have H := HC6.out
   clear HC6
   by_cases c10 : t174.toList = t176.toList
   ·rw [if_pos c10] at H
    have c10b0 : (t174.toList == t176.toList) = true := beq_iff_eq.mpr c10
    have c10b1 : (t174.toList != t176.toList) = false := bne_eq_false_iff_eq.mpr c10
    clear c10
    (first | rw [c10b0] | (simp only [i64_w, i32_w]; rw [c10b0]) | skip)
    by_cases c11 : (t175 != t177) = true
    ·rw [if_pos c11] at H
     have c11b0 : (t175 != t177) = true := c11
     (try (have c11b1 : decide (t175 = t177) = false := by simpa using c11))
     (try (have c11b2 : (t175 == t177) = false := by simpa using c11))
     (try (have c11b3 : ¬ (t175 = t177) := by simpa using c11))
     clear c11
     have H' := Aside0.mk H
     clear H
     go_wp2
     go_meet
     case rel => exact ⟨_, (true), (by first | rfl | (simp; done) | (simp [*]; done)), H', ⟨by first | omega | exact Nat.le_refl _⟩, ⟨by repeat (first | (with_reducible first | exact HB.out | apply below_alloc | apply pw_below_drewN | apply below_drew1) | exact HB.out)⟩⟩
    ·rw [if_neg c11] at H
     have c11b0 : (t175 != t177) = false := by simpa using c11
     (try (have c11b1 : decide (t175 = t177) = true := by simpa using c11))
     (try (have c11b2 : (t175 == t177) = true := by simpa using c11))
     clear c11
     by_cases c12 : t175 = true
     ·subst c12
      have H1 : ((impl_NeedsCode.f k t173).bind fun t178 => (laws_FnNameText.j0 k t174 true t176 t177 (!t178))) = some r := by rw [if_pos rfl] at H; exact H
      clear H
      have H := H1
      clear H1
      replace H := Option.bind_eq_some_iff.mp H
      obtain ⟨t178, A130, H⟩ := H
      replace H : (laws_FnNameText.j0 k t174 true t176 t177 (!t178)) = some r := H
      have A13 := Aside0.mk A130
      clear A130
      have H' := Aside0.mk H
      clear H
      go_wp2_with (first | (go_at_call 27; (with_reducible refine (impl_NeedsCode.calls k t173 t178 _ A13.out).mono ?_); rintro e w' ⟨rfl, ⟨nd, rfl⟩⟩))
      go_meet
      case rel => exact ⟨_, (!t178), (by first | rfl | (simp; done) | (simp [*]; done)), H', ⟨by first | omega | exact Nat.le_refl _⟩, ⟨by repeat (first | (with_reducible first | exact HB.out | apply below_alloc | apply pw_below_drewN | apply below_drew1) | exact HB.out)⟩⟩
     ·replace c12 := Bool.eq_false_iff.mpr c12
      subst c12
      have H1 : (laws_FnNameText.j0 k t174 false t176 t177 true) = some r := by rw [if_neg (show ¬ (false = true) by decide)] at H; exact H
      clear H
      have H := H1
      clear H1
      have H' := Aside0.mk H
      clear H
      go_wp2
      go_meet
      case rel => exact ⟨_, (true), (by first | rfl | (simp; done) | (simp [*]; done)), H', ⟨by first | omega | exact Nat.le_refl _⟩, ⟨by repeat (first | (with_reducible first | exact HB.out | apply below_alloc | apply pw_below_drewN | apply below_drew1) | exact HB.out)⟩⟩
   ·rw [if_neg c10] at H
    have c10b0 : (t174.toList == t176.toList) = false := beq_eq_false_iff_ne.mpr c10
    have c10b1 : (t174.toList != t176.toList) = true := bne_iff_ne.mpr c10
    (first | rw [c10b0] | (simp only [i64_w, i32_w]; rw [c10b0]) | skip)
    have H' := Aside0.mk H
    clear H
    go_wp2
    go_meet
    case rel => exact ⟨_, (true), (by first | rfl | (simp; done) | (simp [*]; done)), H', ⟨by first | omega | exact Nat.le_refl _⟩, ⟨by repeat (first | (with_reducible first | exact HB.out | apply below_alloc | apply pw_below_drewN | apply below_drew1) | exact HB.out)⟩⟩
  case rest =>
   clear HC6
   try clear c1
   try clear c2
   try clear c2b0
   try clear c2b1
   try clear p2
   try clear c6
   try clear c10
   try clear c10b0
   try clear c10b1
   try clear c11
   try clear c11b0
   try clear c11b1
   try clear c11b2
   try clear c12
   obtain ⟨kq, x40_5, rfl, HA, HJ5, HB⟩ := hcut
   cases kq with
   | zero => exact absurd HA.out (by simp [laws_FnNameText.j0])
   | succ kj5 =>
    have H := HA.out
    clear HA
    simp only [laws_FnNameText.j0] at H
    by_cases c14 : x40_5 = true
    ·subst c14
     have H1 : (if t174.toList = t176.toList then (some (t175 == t177)) else (some false)) = some r := by rw [if_pos rfl] at H; exact H
     clear H
     have H := H1
     clear H1
     by_cases c15 : t174.toList = t176.toList
     ·rw [if_pos c15] at H
      have c15b0 : (t174.toList == t176.toList) = true := beq_iff_eq.mpr c15
      have c15b1 : (t174.toList != t176.toList) = false := bne_eq_false_iff_eq.mpr c15
      clear c15
      obtain rfl := Option.some.inj H
      go_wp2
      go_ret
      exact ⟨by first | rfl | (simp [errW_none, errW_some] <;> rfl) | (simp [*, errW_none, errW_some] <;> rfl), by repeat (first | (with_reducible first | exact HB.out | apply below_alloc | apply pw_below_drewN | apply below_drew1) | exact HB.out)⟩
     ·rw [if_neg c15] at H
      have c15b0 : (t174.toList == t176.toList) = false := beq_eq_false_iff_ne.mpr c15
      have c15b1 : (t174.toList != t176.toList) = true := bne_iff_ne.mpr c15
      obtain rfl := Option.some.inj H
      go_wp2
      go_ret
      exact ⟨by first | rfl | (simp [errW_none, errW_some] <;> rfl) | (simp [*, errW_none, errW_some] <;> rfl), by repeat (first | (with_reducible first | exact HB.out | apply below_alloc | apply pw_below_drewN | apply below_drew1) | exact HB.out)⟩
    ·replace c14 := Bool.eq_false_iff.mpr c14
     subst c14
     have H1 : (laws_FnNameText.l0 kj5 t174 0) = some r := by rw [if_neg (show ¬ (false = true) by decide)] at H; exact H
     clear H
     have H := H1
     clear H1
     have H' := Aside0.mk H
     clear H
     go_wp2
     go_loopg [8] kj5 (fun kq v8 w' => ∃ (x8_2 : Int), v8 = .int .i64 x8_2 ∧ Aside0 (laws_FnNameText.l0 kq t174 x8_2 = some r) ∧ Aside0 (kq ≤ kj5) ∧ Aside0 (Below w.heap.size w w'))
     case atStart => exact ⟨(0), (by first | rfl | (simp; done) | (simp [*]; done)), H', ⟨Nat.le_refl _⟩, ⟨by repeat (first | (with_reducible first | exact HB.out | apply below_alloc | apply pw_below_drewN | apply below_drew1) | exact HB.out)⟩⟩
     case round =>
      clear H'
      try clear c1
      try clear c2
      try clear c2b0
      try clear c2b1
      try clear p2
      try clear c6
      try clear c10
      try clear c10b0
      try clear c10b1
      try clear c11
      try clear c11b0
      try clear c11b1
      try clear c11b2
      try clear c12
      try clear c14
      try clear c15
      try clear c15b0
      try clear c15b1
      try clear p2
      obtain ⟨x8_2, rfl, HA, HK2, HB⟩ := hrel
      cases gk with
      | zero => exact absurd HA.out (by simp [laws_FnNameText.l0])
      | succ k2 =>
       have H := HA.out
       clear HA
       simp only [laws_FnNameText.l0] at H
       by_cases c16 : x8_2 < (t174.size : Int)
       ·rw [if_pos c16] at H
        have c16b0 : decide (x8_2 < (t174.size : Int)) = true := decide_eq_true c16
        clear c16
        by_cases c17 : 0 ≤ x8_2
        ·rw [if_pos c17] at H
         have c17b0 : decide (0 ≤ x8_2) = true := decide_eq_true c17
         clear c17
         by_cases c19 : (bt t174 x8_2) < 32
         ·rw [if_pos c19] at H
          have c19b0 : decide ((bt t174 x8_2) < 32) = true := decide_eq_true c19
          clear c19
          obtain rfl := Option.some.inj H
          have p18 : 0 ≤ (x8_2 : Int) := of_decide_eq_true (by first | (with_reducible assumption) | assumption)
          have q18 : x8_2 < (t174.size : Int) := of_decide_eq_true (by first | (with_reducible assumption) | assumption)
          have hx18 := bt_at t174 x8_2
          replace p18 := eq_true p18
          replace q18 := eq_true q18
          go_wp2
          go_ret
          exact ⟨by first | rfl | (simp [errW_none, errW_some] <;> rfl) | (simp [*, errW_none, errW_some] <;> rfl), by repeat (first | (with_reducible first | exact HB.out | apply below_alloc | apply pw_below_drewN | apply below_drew1) | exact HB.out)⟩
         ·rw [if_neg c19] at H
          have c19b0 : decide ((bt t174 x8_2) < 32) = false := decide_eq_false c19
          clear c19
          by_cases c21 : (bt t174 x8_2) > 126
          ·rw [if_pos c21] at H
           have c21b0 : decide (126 < (bt t174 x8_2)) = true := decide_eq_true c21
           clear c21
           obtain rfl := Option.some.inj H
           have p18 : 0 ≤ (x8_2 : Int) := of_decide_eq_true (by first | (with_reducible assumption) | assumption)
           have q18 : x8_2 < (t174.size : Int) := of_decide_eq_true (by first | (with_reducible assumption) | assumption)
           have hx18 := bt_at t174 x8_2
           replace p18 := eq_true p18
           replace q18 := eq_true q18
           have p20 : 0 ≤ (x8_2 : Int) := of_decide_eq_true (by first | (with_reducible assumption) | assumption)
           have q20 : x8_2 < (t174.size : Int) := of_decide_eq_true (by first | (with_reducible assumption) | assumption)
           have hx20 := bt_at t174 x8_2
           replace p20 := eq_true p20
           replace q20 := eq_true q20
           go_wp2
           go_ret
           exact ⟨by first | rfl | (simp [errW_none, errW_some] <;> rfl) | (simp [*, errW_none, errW_some] <;> rfl), by repeat (first | (with_reducible first | exact HB.out | apply below_alloc | apply pw_below_drewN | apply below_drew1) | exact HB.out)⟩
          ·rw [if_neg c21] at H
           have c21b0 : decide (126 < (bt t174 x8_2)) = false := decide_eq_false c21
           clear c21
           have H' := Aside0.mk H
           clear H
           have p18 : 0 ≤ (x8_2 : Int) := of_decide_eq_true (by first | (with_reducible assumption) | assumption)
           have q18 : x8_2 < (t174.size : Int) := of_decide_eq_true (by first | (with_reducible assumption) | assumption)
           have hx18 := bt_at t174 x8_2
           replace p18 := eq_true p18
           replace q18 := eq_true q18
           have p20 : 0 ≤ (x8_2 : Int) := of_decide_eq_true (by first | (with_reducible assumption) | assumption)
           have q20 : x8_2 < (t174.size : Int) := of_decide_eq_true (by first | (with_reducible assumption) | assumption)
           have hx20 := bt_at t174 x8_2
           replace p20 := eq_true p20
           replace q20 := eq_true q20
           go_wp2
           go_roundg k2
           case measure => have := HJ5.out; have := HK2.out; omega
           case rel => exact ⟨(wrap64 (x8_2 + 1)), (by first | rfl | (simp; done) | (simp [*]; done)), H', ⟨by have := HJ5.out; have := HK2.out; omega⟩, ⟨by repeat (first | (with_reducible first | exact HB.out | apply below_alloc | apply pw_below_drewN | apply below_drew1) | exact HB.out)⟩⟩
        ·rw [if_neg c17] at H
         exact absurd H (by simp)
       ·rw [if_neg c16] at H
        have c16b0 : decide (x8_2 < (t174.size : Int)) = false := decide_eq_false c16
        clear c16
        by_cases c22 : (t174.size : Int) ≥ 13
        ·rw [if_pos c22] at H
         have c22b0 : decide (13 ≤ (t174.size : Int)) = true := decide_eq_true c22
         have c22b1 : decide (13 ≤ t174.size) = true := decide_eq_true (by omega)
         clear c22
         by_cases c23 : 0 ≤ 2
         ·rw [if_pos c23] at H
          have c23b0 := eq_true c23
          have c23b1 : decide (0 ≤ 2) = true := decide_eq_true c23
          clear c23
          by_cases c24 : 2 ≤ (t174.size : Int)
          ·rw [if_pos c24] at H
           have c24b0 := eq_true c24
           have c24b1 : decide (2 ≤ (t174.size : Int)) = true := decide_eq_true c24
           clear c24
           by_cases c25 : (t174.extract 0 2).toList = ([61, 63] : List UInt8)
           ·rw [if_pos c25] at H
            have c25b0 : ((t174.extract 0 2).toList == ([61, 63] : List UInt8)) = true := beq_iff_eq.mpr c25
            have c25b1 : ((t174.extract 0 2).toList != ([61, 63] : List UInt8)) = false := bne_eq_false_iff_eq.mpr c25
            clear c25
            obtain ⟨ji26, hji26⟩ : ∃ j_ : Int, (wrap64 ((t174.size : Int) - 2)) = j_ := ⟨_, rfl⟩
            replace H : (if 0 ≤ (ji26) then (if (ji26) ≤ (t174.size : Int) then (some ((t174.extract ((ji26) : Int).toNat t174.size).toList == ([63, 61] : List UInt8))) else (none)) else (none)) = some r := by first | (rw [hji26] at H; exact H) | (simp only [hji26] at H ⊢; exact H)
            have hji26w : (IntKind.i64.wrap ((t174.size : Int) - 2)) = ji26 := (i64_w _).trans hji26
            by_cases c27 : 0 ≤ (ji26)
            ·rw [if_pos c27] at H
             have c27b0 := eq_true c27
             have c27b1 : decide (0 ≤ (ji26)) = true := decide_eq_true c27
             clear c27
             by_cases c28 : (ji26) ≤ (t174.size : Int)
             ·rw [if_pos c28] at H
              have c28b0 := eq_true c28
              have c28b1 : decide ((ji26) ≤ (t174.size : Int)) = true := decide_eq_true c28
              clear c28
              obtain rfl := Option.some.inj H
              go_wp2
              go_ret
              exact ⟨by first | rfl | (simp [errW_none, errW_some] <;> rfl) | (simp only [← hji26]; first | rfl | (simp [errW_none, errW_some] <;> rfl)) | (simp [*, errW_none, errW_some] <;> rfl), by repeat (first | (with_reducible first | exact HB.out | apply below_alloc | apply pw_below_drewN | apply below_drew1) | exact HB.out)⟩
             ·rw [if_neg c28] at H
              exact absurd H (by simp)
            ·rw [if_neg c27] at H
             exact absurd H (by simp)
           ·rw [if_neg c25] at H
            have c25b0 : ((t174.extract 0 2).toList == ([61, 63] : List UInt8)) = false := beq_eq_false_iff_ne.mpr c25
            have c25b1 : ((t174.extract 0 2).toList != ([61, 63] : List UInt8)) = true := bne_iff_ne.mpr c25
            obtain rfl := Option.some.inj H
            go_wp2
            go_ret
            exact ⟨by first | rfl | (simp [errW_none, errW_some] <;> rfl) | (simp [*, errW_none, errW_some] <;> rfl), by repeat (first | (with_reducible first | exact HB.out | apply below_alloc | apply pw_below_drewN | apply below_drew1) | exact HB.out)⟩
          ·rw [if_neg c24] at H
           exact absurd H (by simp)
         ·rw [if_neg c23] at H
          exact absurd H (by simp)
        ·rw [if_neg c22] at H
         have c22b0 : decide (13 ≤ (t174.size : Int)) = false := decide_eq_false c22
         have c22b1 : decide (13 ≤ t174.size) = false := decide_eq_false (by omega)
         clear c22
         obtain rfl := Option.some.inj H
         go_wp2
         go_ret
         exact ⟨by first | rfl | (simp [errW_none, errW_some] <;> rfl) | (simp [*, errW_none, errW_some] <;> rfl), by repeat (first | (with_reducible first | exact HB.out | apply below_alloc | apply pw_below_drewN | apply below_drew1) | exact HB.out)⟩

/-- THE ONE PURE STATEMENT of laws_FnNameText: yours. -/
def laws_FnNameText.Pure : Prop := ∀ (l0 : List Int), l0.length ≤ maxLen → l0.length * 1 ≤ 140737488351232 → (∀ x ∈ l0, (Lit.int .u8 x).wf = true) → ∃ k, laws_FnNameText.f k l0 = some true
theorem laws_FnNameText.walk (P : laws_FnNameText.Pure) (a0 : Option Addr) (len0 cap0 : Nat) (z0 : List Int) (w : World) (hS : AmbM w) (w0 : (a0 = none ∧ len0 = 0 ∧ cap0 = 0 ∧ z0 = []) ∨ ∃ x, a0 = some x ∧ len0 ≤ cap0 ∧ cap0 ≤ maxLen ∧ z0.length = cap0 ∧ (∀ i, i < z0.length → w.cell? (x.add i) = some (.int .u8 (z0.getD i 0))) ∧ ∀ n ∈ z0, (Lit.int .u8 n).wf = true) (y0 : len0 * 1 ≤ 140737488351232) :
  Calls Tryd.prog 6 #[.slice a0 len0 cap0] w fun e w' => e = .returned (.bool true) ∧ Below w.heap.size w w' := by
 obtain ⟨l0, rfl, hr0, hm0, hw0, hc0⟩ := ReadsInt.ofRowC w0
 obtain ⟨k, h⟩ := P l0 hm0 y0 hw0
 refine (laws_FnNameText.calls k _ _ l0 true w (Kd.C_of_reads (d := (0 : Int)) (h1 := fun _ => rfl) hr0) hc0 h).mono ?_
 rintro e w' ⟨rfl, hd⟩
 exact ⟨rfl, hd⟩

end Go.Proofs.YtdkgbemlfajhcaaDoor.PFnNameText
