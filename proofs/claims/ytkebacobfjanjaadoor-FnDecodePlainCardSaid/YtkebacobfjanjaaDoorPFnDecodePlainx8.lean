-- Written by a program of this session (wip/tool/myprint.py) out of the translation.
import Derived.Test.YtkebacobfjanjaaDoorPFnDecodePlainx0
import Derived.Test.YtkebacobfjanjaaDoorPFnDecodePlainx3
import Derived.Test.YtkebacobfjanjaaDoorPFnDecodePlainx5
import Derived.Test.YtkebacobfjanjaaDoorPFnDecodePlainx7
namespace Go.Proofs.YtkebacobfjanjaaDoor.PFnDecodePlain
open Go.RowKit Go.Proofs.YtkebacobfjanjaaDoorW.PrintWords Go.Proofs.YtkebacobfjanjaaDoorW.PrintLast Go.Proofs.YtkebacobfjanjaaDoorW.PrintMore
attribute [local go_sem] max2_int min2_int max_two min_two max_three min_three max_four min_four   -- for this text's walks alone
set_option linter.unusedVariables false
set_option linter.unusedSimpArgs false

/-! ### laws_FnDecodePlain: function 7 -/
mutual
def laws_FnDecodePlain.j0 : Nat → ByteArray → ByteArray → Bool → ByteArray → Bool → Bool → Option (Bool)
 | 0, _, _, _, _, _, _ => none
 | k + 1, x3, x4, x5, x6, x7, x35 => if x35 = true then (if x4.toList = x6.toList then (some (x5 == x7)) else (some false)) else (laws_FnDecodePlain.l0 k x3 x4 0)
def laws_FnDecodePlain.l0 : Nat → ByteArray → ByteArray → Int → Option (Bool)
 | 0, _, _, _ => none
 | k + 1, x3, x4, x8 => if x8 < (x3.size : Int) then (if 0 ≤ x8 then (if (bt x3 x8) = 63 then (some (decide ((x4.size : Int) ≤ 120))) else (laws_FnDecodePlain.l0 k x3 x4 (wrap64 (x8 + 1)))) else (none)) else (some (x4.toList == x3.toList))
end
def laws_FnDecodePlain.f (k : Nat) (l0 : List Int) : Option (Bool) := if (l0.length : Int) > 1048576 then (some true) else ((spec_DrawDecodeName.f k l0).bind fun t233 => ((impl_DecodeName.f k t233).bind fun bt234 => ((spec_DecodeName.f k t233).bind fun bt236 => (if bt234.1.toList = bt236.1.toList then (if (bt234.2 != bt236.2) = true then (laws_FnDecodePlain.j0 k t233 bt234.1 bt234.2 bt236.1 bt236.2 true) else (laws_FnDecodePlain.j0 k t233 bt234.1 bt234.2 bt236.1 bt236.2 (!bt234.2))) else (laws_FnDecodePlain.j0 k t233 bt234.1 bt234.2 bt236.1 bt236.2 true)))))
theorem laws_FnDecodePlain.mono_l : ∀ k, (∀ y0 y1 y2 y3 y4 y5, LeO (laws_FnDecodePlain.j0 k y0 y1 y2 y3 y4 y5) (laws_FnDecodePlain.j0 (k + 1) y0 y1 y2 y3 y4 y5)) ∧ (∀ y0 y1 y2, LeO (laws_FnDecodePlain.l0 k y0 y1 y2) (laws_FnDecodePlain.l0 (k + 1) y0 y1 y2))
 | 0 => ⟨fun _ _ _ _ _ _ r h => by simp [laws_FnDecodePlain.j0] at h, fun _ _ _ r h => by simp [laws_FnDecodePlain.l0] at h⟩
 | k + 1 => by
  obtain ⟨ih0, ih1⟩ := laws_FnDecodePlain.mono_l k
  refine ⟨?_, ?_⟩
  ·intro y0 y1 y2 y3 y4 y5
   unfold laws_FnDecodePlain.j0
   repeat' first
   | (with_reducible exact ih0 _ _ _ _ _ _)
   | (with_reducible exact ih1 _ _ _)
   | (with_reducible exact impl_DecodeName.mono _ _)
   | (with_reducible exact spec_DecodeName.mono _ _)
   | (with_reducible exact spec_DrawDecodeName.mono _ _)
   | (with_reducible exact LeO.refl _)
   | (with_reducible exact LeO.none _)
   | (with_reducible refine LeO.ite ?_ ?_)
   | (with_reducible refine LeO.bind ?_ (fun _ => ?_))
   | exact ih0 _ _ _ _ _ _
   | exact ih1 _ _ _
   | exact impl_DecodeName.mono _ _
   | exact spec_DecodeName.mono _ _
   | exact spec_DrawDecodeName.mono _ _
   | exact LeO.none _
   | refine LeO.ite ?_ ?_
   | refine LeO.bind ?_ (fun _ => ?_)
  ·intro y0 y1 y2
   unfold laws_FnDecodePlain.l0
   repeat' first
   | (with_reducible exact ih0 _ _ _ _ _ _)
   | (with_reducible exact ih1 _ _ _)
   | (with_reducible exact impl_DecodeName.mono _ _)
   | (with_reducible exact spec_DecodeName.mono _ _)
   | (with_reducible exact spec_DrawDecodeName.mono _ _)
   | (with_reducible exact LeO.refl _)
   | (with_reducible exact LeO.none _)
   | (with_reducible refine LeO.ite ?_ ?_)
   | (with_reducible refine LeO.bind ?_ (fun _ => ?_))
   | exact ih0 _ _ _ _ _ _
   | exact ih1 _ _ _
   | exact impl_DecodeName.mono _ _
   | exact spec_DecodeName.mono _ _
   | exact spec_DrawDecodeName.mono _ _
   | exact LeO.none _
   | refine LeO.ite ?_ ?_
   | refine LeO.bind ?_ (fun _ => ?_)
theorem laws_FnDecodePlain.mono : ∀ a0 k, LeO (laws_FnDecodePlain.f k a0) (laws_FnDecodePlain.f (k + 1) a0) := by
 intro a0 k
 obtain ⟨ih0, ih1⟩ := laws_FnDecodePlain.mono_l k
 unfold laws_FnDecodePlain.f
 repeat' first
   | (with_reducible exact ih0 _ _ _ _ _ _)
   | (with_reducible exact ih1 _ _ _)
   | (with_reducible exact impl_DecodeName.mono _ _)
   | (with_reducible exact spec_DecodeName.mono _ _)
   | (with_reducible exact spec_DrawDecodeName.mono _ _)
   | (with_reducible exact LeO.refl _)
   | (with_reducible exact LeO.none _)
   | (with_reducible refine LeO.ite ?_ ?_)
   | (with_reducible refine LeO.bind ?_ (fun _ => ?_))
   | exact ih0 _ _ _ _ _ _
   | exact ih1 _ _ _
   | exact impl_DecodeName.mono _ _
   | exact spec_DecodeName.mono _ _
   | exact spec_DrawDecodeName.mono _ _
   | exact LeO.none _
   | refine LeO.ite ?_ ?_
   | refine LeO.bind ?_ (fun _ => ?_)
set_option maxHeartbeats 8000000 in
set_option maxRecDepth 100000 in
theorem laws_FnDecodePlain.calls (k : Nat) (A0 : Option Addr) (c0 : Nat) (l0 : List Int) (r : Bool) (w : World) (hr0 : Kd.C (Kd.int .u8) w A0 l0.length l0) (hc0 : l0.length ≤ c0) (h : laws_FnDecodePlain.f k l0 = some r) :
  Calls Tryd.prog 7 #[.slice A0 l0.length c0] w fun e w' => e = .returned (.bool r) ∧ Below w.heap.size w w' := by
 have HR0 := Aside0.mk hr0
 have HC0 := Aside0.mk hc0
 clear hr0 hc0
 have HB := Aside0.mk (Below.refl w.heap.size w)
 have H : (if (l0.length : Int) > 1048576 then (some true) else ((spec_DrawDecodeName.f k l0).bind fun t233 => ((impl_DecodeName.f k t233).bind fun bt234 => ((spec_DecodeName.f k t233).bind fun bt236 => (if bt234.1.toList = bt236.1.toList then (if (bt234.2 != bt236.2) = true then (laws_FnDecodePlain.j0 k t233 bt234.1 bt234.2 bt236.1 bt236.2 true) else (laws_FnDecodePlain.j0 k t233 bt234.1 bt234.2 bt236.1 bt236.2 (!bt234.2))) else (laws_FnDecodePlain.j0 k t233 bt234.1 bt234.2 bt236.1 bt236.2 true)))))) = some r := h
 clear h
 by_cases c2 : (l0.length : Int) > 1048576
 ·rw [if_pos c2] at H
  have c2b0 : decide (1048576 < (l0.length : Int)) = true := decide_eq_true c2
  have c2b1 : decide (1048576 < l0.length) = true := decide_eq_true (by omega)
  clear c2
  obtain rfl := Option.some.inj H
  go_enter Tryd.func7, Tryd.ntmps7
  go_wp2
  go_ret
  exact ⟨by first | rfl | (simp [errW_none, errW_some] <;> rfl) | (simp [*, errW_none, errW_some] <;> rfl), by repeat (first | (with_reducible first | exact HB.out | apply below_alloc | apply pw_below_drewN | apply below_drew1) | exact HB.out)⟩
 ·rw [if_neg c2] at H
  have c2b0 : decide (1048576 < (l0.length : Int)) = false := decide_eq_false c2
  have c2b1 : decide (1048576 < l0.length) = false := decide_eq_false (by omega)
  clear c2
  replace H := Option.bind_eq_some_iff.mp H
  obtain ⟨t233, A30, H⟩ := H
  replace H : ((impl_DecodeName.f k t233).bind fun bt234 => ((spec_DecodeName.f k t233).bind fun bt236 => (if bt234.1.toList = bt236.1.toList then (if (bt234.2 != bt236.2) = true then (laws_FnDecodePlain.j0 k t233 bt234.1 bt234.2 bt236.1 bt236.2 true) else (laws_FnDecodePlain.j0 k t233 bt234.1 bt234.2 bt236.1 bt236.2 (!bt234.2))) else (laws_FnDecodePlain.j0 k t233 bt234.1 bt234.2 bt236.1 bt236.2 true)))) = some r := H
  have A3 := Aside0.mk A30
  clear A30
  replace H := Option.bind_eq_some_iff.mp H
  obtain ⟨⟨t234, t235⟩, A40, H⟩ := H
  replace H : ((spec_DecodeName.f k t233).bind fun bt236 => (if t234.toList = bt236.1.toList then (if (t235 != bt236.2) = true then (laws_FnDecodePlain.j0 k t233 t234 t235 bt236.1 bt236.2 true) else (laws_FnDecodePlain.j0 k t233 t234 t235 bt236.1 bt236.2 (!t235))) else (laws_FnDecodePlain.j0 k t233 t234 t235 bt236.1 bt236.2 true))) = some r := H
  have A4 := Aside0.mk A40
  clear A40
  replace H := Option.bind_eq_some_iff.mp H
  obtain ⟨⟨t236, t237⟩, A50, H⟩ := H
  replace H : (if t234.toList = t236.toList then (if (t235 != t237) = true then (laws_FnDecodePlain.j0 k t233 t234 t235 t236 t237 true) else (laws_FnDecodePlain.j0 k t233 t234 t235 t236 t237 (!t235))) else (laws_FnDecodePlain.j0 k t233 t234 t235 t236 t237 true)) = some r := H
  have A5 := Aside0.mk A50
  clear A50
  have HC6 := Aside0.mk H
  clear H
  go_enter Tryd.func7, Tryd.ntmps7
  go_upto_region 6 with (first | ((with_reducible refine gate_callee (f := 18) rfl ?_); refine goesL_ (some 13) rfl rfl Tryd.func18 (by kernel_rfl) rfl #[.slice A0 l0.length c0] rfl (by (try simp only [List.map_toArray, List.map_cons, List.map_nil]); first | done | rfl | (simp only [List.length_drop, List.length_take]; rfl)) ?_; (with_reducible refine (spec_DrawDecodeName.calls k _ _ l0 t233 _ ?side1 ?side2 A3.out).mono ?_); (case side1 => repeat (first | exact HR0.out | (with_reducible refine Kd.C_alloc ?_ _) | (with_reducible refine Kd.C_drewN ?_ _) | (with_reducible refine Kd.C_drew ?_))); (case side2 => exact HC0.out); rintro e w7 ⟨rfl, hb⟩; refine ⟨_, rfl, ?_⟩; have n0_ := Aside0.mk (below_step (by repeat (first | (with_reducible first | exact HB.out | apply below_alloc | apply pw_below_drewN | apply below_drew1) | exact HB.out)) hb); clear HB; have HB := n0_; clear n0_; (try clear hb); (try clear hb2); (try clear hk); (try clear hi)) | ((with_reducible refine gate_callee (f := 13) rfl ?_); refine goesL_ (some 16) rfl rfl Tryd.func13 (by kernel_rfl) rfl #[.string t233] rfl (by (try simp only [List.map_toArray, List.map_cons, List.map_nil]); first | done | rfl | (simp only [List.length_drop, List.length_take]; rfl)) ?_; (with_reducible refine (impl_DecodeName.calls k t233 t234 t235 _ A4.out).mono ?_); rintro e w8 ⟨rfl, hb⟩; refine ⟨_, rfl, ?_⟩; have n0_ := Aside0.mk (below_step (by repeat (first | (with_reducible first | exact HB.out | apply below_alloc | apply pw_below_drewN | apply below_drew1) | exact HB.out)) hb); clear HB; have HB := n0_; clear n0_; (try clear hb); (try clear hb2); (try clear hk); (try clear hi)) | ((with_reducible refine gate_callee (f := 12) rfl ?_); refine goesL_ (some 21) rfl rfl Tryd.func12 (by kernel_rfl) rfl #[.string t233] rfl (by (try simp only [List.map_toArray, List.map_cons, List.map_nil]); first | done | rfl | (simp only [List.length_drop, List.length_take]; rfl)) ?_; (with_reducible refine (spec_DecodeName.calls k t233 t236 t237 _ A5.out).mono ?_); rintro e w9 ⟨rfl, hb⟩; refine ⟨_, rfl, ?_⟩; have n0_ := Aside0.mk (below_step (by repeat (first | (with_reducible first | exact HB.out | apply below_alloc | apply pw_below_drewN | apply below_drew1) | exact HB.out)) hb); clear HB; have HB := n0_; clear n0_; (try clear hb); (try clear hb2); (try clear hk); (try clear hi)))
  (try simp only [Act.put, List.setIfInBounds_toArray, List.set_cons_zero, List.set_cons_succ])
  go_cut [35] (fun v35 wc => ∃ (kq : Nat) (x35_5 : Bool), v35 = .bool x35_5 ∧ Aside0 (laws_FnDecodePlain.j0 kq t233 t234 t235 t236 t237 x35_5 = some r) ∧ Aside0 (kq ≤ k) ∧ Aside0 (Below w.heap.size w wc))
  case first =>
   have H := HC6.out
   clear HC6
   by_cases c10 : t234.toList = t236.toList
   ·rw [if_pos c10] at H
    have c10b0 : (t234.toList == t236.toList) = true := beq_iff_eq.mpr c10
    have c10b1 : (t234.toList != t236.toList) = false := bne_eq_false_iff_eq.mpr c10
    clear c10
    (first | rw [c10b0] | (simp only [i64_w, i32_w]; rw [c10b0]) | skip)
    by_cases c11 : (t235 != t237) = true
    ·rw [if_pos c11] at H
     have c11b0 : (t235 != t237) = true := c11
     (try (have c11b1 : decide (t235 = t237) = false := by simpa using c11))
     (try (have c11b2 : (t235 == t237) = false := by simpa using c11))
     (try (have c11b3 : ¬ (t235 = t237) := by simpa using c11))
     clear c11
     have H' := Aside0.mk H
     clear H
     go_wp2
     go_meet
     case rel => exact ⟨_, (true), (by first | rfl | (simp; done) | (simp [*]; done)), H', ⟨by first | omega | exact Nat.le_refl _⟩, ⟨by repeat (first | (with_reducible first | exact HB.out | apply below_alloc | apply pw_below_drewN | apply below_drew1) | exact HB.out)⟩⟩
    ·rw [if_neg c11] at H
     have c11b0 : (t235 != t237) = false := by simpa using c11
     (try (have c11b1 : decide (t235 = t237) = true := by simpa using c11))
     (try (have c11b2 : (t235 == t237) = true := by simpa using c11))
     clear c11
     have H' := Aside0.mk H
     clear H
     go_wp2
     go_meet
     case rel => exact ⟨_, (!t235), (by first | rfl | (simp; done) | (simp [*]; done)), H', ⟨by first | omega | exact Nat.le_refl _⟩, ⟨by repeat (first | (with_reducible first | exact HB.out | apply below_alloc | apply pw_below_drewN | apply below_drew1) | exact HB.out)⟩⟩
   ·rw [if_neg c10] at H
    have c10b0 : (t234.toList == t236.toList) = false := beq_eq_false_iff_ne.mpr c10
    have c10b1 : (t234.toList != t236.toList) = true := bne_iff_ne.mpr c10
    (first | rw [c10b0] | (simp only [i64_w, i32_w]; rw [c10b0]) | skip)
    have H' := Aside0.mk H
    clear H
    go_wp2
    go_meet
    case rel => exact ⟨_, (true), (by first | rfl | (simp; done) | (simp [*]; done)), H', ⟨by first | omega | exact Nat.le_refl _⟩, ⟨by repeat (first | (with_reducible first | exact HB.out | apply below_alloc | apply pw_below_drewN | apply below_drew1) | exact HB.out)⟩⟩
  case rest =>
   clear HC6
   try clear c1
   try clear c2
   try clear c2b0
   try clear c2b1
   try clear p2
   try clear c7
   try clear c10
   try clear c10b0
   try clear c10b1
   try clear c11
   try clear c11b0
   try clear c11b1
   try clear c11b2
   obtain ⟨kq, x35_5, rfl, HA, HJ5, HB⟩ := hcut
   cases kq with
   | zero => exact absurd HA.out (by simp [laws_FnDecodePlain.j0])
   | succ kj5 =>
    have H := HA.out
    clear HA
    simp only [laws_FnDecodePlain.j0] at H
    by_cases c12 : x35_5 = true
    ·subst c12
     have H1 : (if t234.toList = t236.toList then (some (t235 == t237)) else (some false)) = some r := by rw [if_pos rfl] at H; exact H
     clear H
     have H := H1
     clear H1
     by_cases c13 : t234.toList = t236.toList
     ·rw [if_pos c13] at H
      have c13b0 : (t234.toList == t236.toList) = true := beq_iff_eq.mpr c13
      have c13b1 : (t234.toList != t236.toList) = false := bne_eq_false_iff_eq.mpr c13
      clear c13
      obtain rfl := Option.some.inj H
      go_wp2
      go_ret
      exact ⟨by first | rfl | (simp [errW_none, errW_some] <;> rfl) | (simp [*, errW_none, errW_some] <;> rfl), by repeat (first | (with_reducible first | exact HB.out | apply below_alloc | apply pw_below_drewN | apply below_drew1) | exact HB.out)⟩
     ·rw [if_neg c13] at H
      have c13b0 : (t234.toList == t236.toList) = false := beq_eq_false_iff_ne.mpr c13
      have c13b1 : (t234.toList != t236.toList) = true := bne_iff_ne.mpr c13
      obtain rfl := Option.some.inj H
      go_wp2
      go_ret
      exact ⟨by first | rfl | (simp [errW_none, errW_some] <;> rfl) | (simp [*, errW_none, errW_some] <;> rfl), by repeat (first | (with_reducible first | exact HB.out | apply below_alloc | apply pw_below_drewN | apply below_drew1) | exact HB.out)⟩
    ·replace c12 := Bool.eq_false_iff.mpr c12
     subst c12
     have H1 : (laws_FnDecodePlain.l0 kj5 t233 t234 0) = some r := by rw [if_neg (show ¬ (false = true) by decide)] at H; exact H
     clear H
     have H := H1
     clear H1
     have H' := Aside0.mk H
     clear H
     go_wp2
     go_loopg [8] kj5 (fun kq v8 w' => ∃ (x8_2 : Int), v8 = .int .i64 x8_2 ∧ Aside0 (laws_FnDecodePlain.l0 kq t233 t234 x8_2 = some r) ∧ Aside0 (kq ≤ kj5) ∧ Aside0 (Below w.heap.size w w'))
     case atStart => exact ⟨(0), (by first | rfl | (simp; done) | (simp [*]; done)), H', ⟨Nat.le_refl _⟩, ⟨by repeat (first | (with_reducible first | exact HB.out | apply below_alloc | apply pw_below_drewN | apply below_drew1) | exact HB.out)⟩⟩
     case round =>
      clear H'
      try clear c1
      try clear c2
      try clear c2b0
      try clear c2b1
      try clear p2
      try clear c7
      try clear c10
      try clear c10b0
      try clear c10b1
      try clear c11
      try clear c11b0
      try clear c11b1
      try clear c11b2
      try clear c12
      try clear c13
      try clear c13b0
      try clear c13b1
      try clear p2
      obtain ⟨x8_2, rfl, HA, HK2, HB⟩ := hrel
      cases gk with
      | zero => exact absurd HA.out (by simp [laws_FnDecodePlain.l0])
      | succ k2 =>
       have H := HA.out
       clear HA
       simp only [laws_FnDecodePlain.l0] at H
       by_cases c14 : x8_2 < (t233.size : Int)
       ·rw [if_pos c14] at H
        have c14b0 : decide (x8_2 < (t233.size : Int)) = true := decide_eq_true c14
        clear c14
        by_cases c15 : 0 ≤ x8_2
        ·rw [if_pos c15] at H
         have c15b0 : decide (0 ≤ x8_2) = true := decide_eq_true c15
         clear c15
         by_cases c17 : (bt t233 x8_2) = 63
         ·rw [if_pos c17] at H
          have c17b0 : ((bt t233 x8_2) == 63) = true := beq_iff_eq.mpr c17
          have c17b1 : ((bt t233 x8_2) != 63) = false := bne_eq_false_iff_eq.mpr c17
          clear c17
          obtain rfl := Option.some.inj H
          have p16 : 0 ≤ (x8_2 : Int) := of_decide_eq_true (by first | (with_reducible assumption) | assumption)
          have q16 : x8_2 < (t233.size : Int) := of_decide_eq_true (by first | (with_reducible assumption) | assumption)
          have hx16 := bt_at t233 x8_2
          replace p16 := eq_true p16
          replace q16 := eq_true q16
          go_wp2
          go_ret
          exact ⟨by first | rfl | (simp [errW_none, errW_some] <;> rfl) | (simp [*, errW_none, errW_some] <;> rfl), by repeat (first | (with_reducible first | exact HB.out | apply below_alloc | apply pw_below_drewN | apply below_drew1) | exact HB.out)⟩
         ·rw [if_neg c17] at H
          have c17b0 : ((bt t233 x8_2) == 63) = false := beq_eq_false_iff_ne.mpr c17
          have c17b1 : ((bt t233 x8_2) != 63) = true := bne_iff_ne.mpr c17
          have H' := Aside0.mk H
          clear H
          have p16 : 0 ≤ (x8_2 : Int) := of_decide_eq_true (by first | (with_reducible assumption) | assumption)
          have q16 : x8_2 < (t233.size : Int) := of_decide_eq_true (by first | (with_reducible assumption) | assumption)
          have hx16 := bt_at t233 x8_2
          replace p16 := eq_true p16
          replace q16 := eq_true q16
          go_wp2
          go_roundg k2
          case measure => have := HJ5.out; have := HK2.out; omega
          case rel => exact ⟨(wrap64 (x8_2 + 1)), (by first | rfl | (simp; done) | (simp [*]; done)), H', ⟨by have := HJ5.out; have := HK2.out; omega⟩, ⟨by repeat (first | (with_reducible first | exact HB.out | apply below_alloc | apply pw_below_drewN | apply below_drew1) | exact HB.out)⟩⟩
        ·rw [if_neg c15] at H
         exact absurd H (by simp)
       ·rw [if_neg c14] at H
        have c14b0 : decide (x8_2 < (t233.size : Int)) = false := decide_eq_false c14
        clear c14
        obtain rfl := Option.some.inj H
        go_wp2
        go_ret
        exact ⟨by first | rfl | (simp [errW_none, errW_some] <;> rfl) | (simp [*, errW_none, errW_some] <;> rfl), by repeat (first | (with_reducible first | exact HB.out | apply below_alloc | apply pw_below_drewN | apply below_drew1) | exact HB.out)⟩

/-- THE ONE PURE STATEMENT of laws_FnDecodePlain: yours. -/
def laws_FnDecodePlain.Pure : Prop := ∀ (l0 : List Int), l0.length ≤ maxLen → l0.length * 1 ≤ 140737488351232 → (∀ x ∈ l0, (Lit.int .u8 x).wf = true) → ∃ k, laws_FnDecodePlain.f k l0 = some true
theorem laws_FnDecodePlain.walk (P : laws_FnDecodePlain.Pure) (a0 : Option Addr) (len0 cap0 : Nat) (z0 : List Int) (w : World) (w0 : (a0 = none ∧ len0 = 0 ∧ cap0 = 0 ∧ z0 = []) ∨ ∃ x, a0 = some x ∧ len0 ≤ cap0 ∧ cap0 ≤ maxLen ∧ z0.length = cap0 ∧ (∀ i, i < z0.length → w.cell? (x.add i) = some (.int .u8 (z0.getD i 0))) ∧ ∀ n ∈ z0, (Lit.int .u8 n).wf = true) (y0 : len0 * 1 ≤ 140737488351232) :
  Calls Tryd.prog 7 #[.slice a0 len0 cap0] w fun e w' => e = .returned (.bool true) ∧ Below w.heap.size w w' := by
 obtain ⟨l0, rfl, hr0, hm0, hw0, hc0⟩ := ReadsInt.ofRowC w0
 obtain ⟨k, h⟩ := P l0 hm0 y0 hw0
 refine (laws_FnDecodePlain.calls k _ _ l0 true w (Kd.C_of_reads (d := (0 : Int)) (h1 := fun _ => rfl) hr0) hc0 h).mono ?_
 rintro e w' ⟨rfl, hd⟩
 exact ⟨rfl, hd⟩

end Go.Proofs.YtkebacobfjanjaaDoor.PFnDecodePlain
