-- Written by a program of this session (wip/tool/myprint.py) out of the translation.
import Derived.Test.YtenplenjpliciaaPFnBaseWidthx0
import Derived.Test.YtenplenjpliciaaPFnBaseWidthx1
import Derived.Test.YtenplenjpliciaaPFnBaseWidthx2
import Derived.Test.YtenplenjpliciaaPFnBaseWidthx3
namespace Go.Proofs.Ytenplenjpliciaa.PFnBaseWidth
open Go.RowKit Go.Proofs.YtenplenjpliciaaW.PrintWords Go.Proofs.YtenplenjpliciaaW.PrintLast Go.Proofs.YtenplenjpliciaaW.PrintMore
attribute [local go_sem] max2_int min2_int max_two min_two max_three min_three max_four min_four   -- for this text's walks alone
set_option linter.unusedVariables false
set_option linter.unusedSimpArgs false

/-! ### laws_FnBaseWidth: function 7 -/
mutual
def laws_FnBaseWidth.j0 : Nat → ByteArray → List ByteArray → Bool → List ByteArray → Bool → Bool → Option (Bool)
 | 0, _, _, _, _, _, _ => none
 | k + 1, x3, x4, x5, x6, x7, x37 => if x37 = true then ((laws_mwTexts.f k x4 x6).bind fun t179 => (if t179 = true then (some (x5 == x7)) else (some false))) else (laws_FnBaseWidth.l0 k x3 x4 0)
def laws_FnBaseWidth.l0 : Nat → ByteArray → List ByteArray → Int → Option (Bool)
 | 0, _, _, _ => none
 | k + 1, x3, x4, x8 => if (wrap64 (x8 + 1)) < (x4.length : Int) then (if 0 ≤ x8 then (if x8 < (x4.length : Int) then (if ((rdOf ByteArray.empty x4 x8).size : Int) = 40 then (laws_FnBaseWidth.l0 k x3 x4 (wrap64 (x8 + 1))) else (some false)) else (none)) else (none)) else (if 0 ≤ (wrap64 ((x4.length : Int) - 1)) then (if (wrap64 ((x4.length : Int) - 1)) < (x4.length : Int) then (if ((rdOf ByteArray.empty x4 (wrap64 ((x4.length : Int) - 1))).size : Int) ≤ 40 then (some ((decide (((rdOf ByteArray.empty x4 (wrap64 ((x4.length : Int) - 1))).size : Int) > 0)) == (decide ((x3.size : Int) > 0)))) else (some false)) else (none)) else (none))
end
def laws_FnBaseWidth.f (k : Nat) (l0 : List Int) : Option (Bool) := if (l0.length : Int) > 1048576 then (some true) else ((spec_DrawEncodeBase.f k l0).bind fun t169 => ((impl_EncodeBase.f k t169).bind fun bt170 => ((spec_EncodeBase.f k t169).bind fun bt174 => ((laws_mwTexts.f k bt170.1 bt174.1).bind fun t178 => (if t178 = true then (if (bt170.2 != bt174.2) = true then (laws_FnBaseWidth.j0 k t169 bt170.1 bt170.2 bt174.1 bt174.2 true) else (laws_FnBaseWidth.j0 k t169 bt170.1 bt170.2 bt174.1 bt174.2 (!bt170.2))) else (laws_FnBaseWidth.j0 k t169 bt170.1 bt170.2 bt174.1 bt174.2 true))))))
theorem laws_FnBaseWidth.mono_l : ∀ k, (∀ y0 y1 y2 y3 y4 y5, LeO (laws_FnBaseWidth.j0 k y0 y1 y2 y3 y4 y5) (laws_FnBaseWidth.j0 (k + 1) y0 y1 y2 y3 y4 y5)) ∧ (∀ y0 y1 y2, LeO (laws_FnBaseWidth.l0 k y0 y1 y2) (laws_FnBaseWidth.l0 (k + 1) y0 y1 y2))
 | 0 => ⟨fun _ _ _ _ _ _ r h => by simp [laws_FnBaseWidth.j0] at h, fun _ _ _ r h => by simp [laws_FnBaseWidth.l0] at h⟩
 | k + 1 => by
  obtain ⟨ih0, ih1⟩ := laws_FnBaseWidth.mono_l k
  refine ⟨?_, ?_⟩
  ·intro y0 y1 y2 y3 y4 y5
   unfold laws_FnBaseWidth.j0
   repeat' first
   | (with_reducible exact ih0 _ _ _ _ _ _)
   | (with_reducible exact ih1 _ _ _)
   | (with_reducible exact impl_EncodeBase.mono _ _)
   | (with_reducible exact laws_mwTexts.mono _ _ _)
   | (with_reducible exact spec_DrawEncodeBase.mono _ _)
   | (with_reducible exact spec_EncodeBase.mono _ _)
   | (with_reducible exact LeO.refl _)
   | (with_reducible exact LeO.none _)
   | (with_reducible refine LeO.ite ?_ ?_)
   | (with_reducible refine LeO.bind ?_ (fun _ => ?_))
   | exact ih0 _ _ _ _ _ _
   | exact ih1 _ _ _
   | exact impl_EncodeBase.mono _ _
   | exact laws_mwTexts.mono _ _ _
   | exact spec_DrawEncodeBase.mono _ _
   | exact spec_EncodeBase.mono _ _
   | exact LeO.none _
   | refine LeO.ite ?_ ?_
   | refine LeO.bind ?_ (fun _ => ?_)
  ·intro y0 y1 y2
   unfold laws_FnBaseWidth.l0
   repeat' first
   | (with_reducible exact ih0 _ _ _ _ _ _)
   | (with_reducible exact ih1 _ _ _)
   | (with_reducible exact impl_EncodeBase.mono _ _)
   | (with_reducible exact laws_mwTexts.mono _ _ _)
   | (with_reducible exact spec_DrawEncodeBase.mono _ _)
   | (with_reducible exact spec_EncodeBase.mono _ _)
   | (with_reducible exact LeO.refl _)
   | (with_reducible exact LeO.none _)
   | (with_reducible refine LeO.ite ?_ ?_)
   | (with_reducible refine LeO.bind ?_ (fun _ => ?_))
   | exact ih0 _ _ _ _ _ _
   | exact ih1 _ _ _
   | exact impl_EncodeBase.mono _ _
   | exact laws_mwTexts.mono _ _ _
   | exact spec_DrawEncodeBase.mono _ _
   | exact spec_EncodeBase.mono _ _
   | exact LeO.none _
   | refine LeO.ite ?_ ?_
   | refine LeO.bind ?_ (fun _ => ?_)
theorem laws_FnBaseWidth.mono : ∀ a0 k, LeO (laws_FnBaseWidth.f k a0) (laws_FnBaseWidth.f (k + 1) a0) := by
 intro a0 k
 obtain ⟨ih0, ih1⟩ := laws_FnBaseWidth.mono_l k
 unfold laws_FnBaseWidth.f
 repeat' first
   | (with_reducible exact ih0 _ _ _ _ _ _)
   | (with_reducible exact ih1 _ _ _)
   | (with_reducible exact impl_EncodeBase.mono _ _)
   | (with_reducible exact laws_mwTexts.mono _ _ _)
   | (with_reducible exact spec_DrawEncodeBase.mono _ _)
   | (with_reducible exact spec_EncodeBase.mono _ _)
   | (with_reducible exact LeO.refl _)
   | (with_reducible exact LeO.none _)
   | (with_reducible refine LeO.ite ?_ ?_)
   | (with_reducible refine LeO.bind ?_ (fun _ => ?_))
   | exact ih0 _ _ _ _ _ _
   | exact ih1 _ _ _
   | exact impl_EncodeBase.mono _ _
   | exact laws_mwTexts.mono _ _ _
   | exact spec_DrawEncodeBase.mono _ _
   | exact spec_EncodeBase.mono _ _
   | exact LeO.none _
   | refine LeO.ite ?_ ?_
   | refine LeO.bind ?_ (fun _ => ?_)
set_option maxHeartbeats 8000000 in
set_option maxRecDepth 100000 in
theorem laws_FnBaseWidth.calls (k : Nat) (A0 : Option Addr) (c0 : Nat) (l0 : List Int) (r : Bool) (w : World) (hr0 : Kd.C (Kd.int .u8) w A0 l0.length l0) (hc0 : l0.length ≤ c0) (h : laws_FnBaseWidth.f k l0 = some r) :
  Calls Try.prog 7 #[.slice A0 l0.length c0] w fun e w' => e = .returned (.bool r) ∧ Below w.heap.size w w' := by
 have HR0 := Aside0.mk hr0
 have HC0 := Aside0.mk hc0
 clear hr0 hc0
 have HB := Aside0.mk (Below.refl w.heap.size w)
 have H : (if (l0.length : Int) > 1048576 then (some true) else ((spec_DrawEncodeBase.f k l0).bind fun t169 => ((impl_EncodeBase.f k t169).bind fun bt170 => ((spec_EncodeBase.f k t169).bind fun bt174 => ((laws_mwTexts.f k bt170.1 bt174.1).bind fun t178 => (if t178 = true then (if (bt170.2 != bt174.2) = true then (laws_FnBaseWidth.j0 k t169 bt170.1 bt170.2 bt174.1 bt174.2 true) else (laws_FnBaseWidth.j0 k t169 bt170.1 bt170.2 bt174.1 bt174.2 (!bt170.2))) else (laws_FnBaseWidth.j0 k t169 bt170.1 bt170.2 bt174.1 bt174.2 true))))))) = some r := h
 clear h
 by_cases c2 : (l0.length : Int) > 1048576
 ·rw [if_pos c2] at H
  have c2b0 : decide (1048576 < (l0.length : Int)) = true := decide_eq_true c2
  have c2b1 : decide (1048576 < l0.length) = true := decide_eq_true (by omega)
  clear c2
  obtain rfl := Option.some.inj H
  go_enter Try.func7, Try.ntmps7
  go_wp2
  go_ret
  exact ⟨by first | rfl | (simp [errW_none, errW_some] <;> rfl) | (simp [*, errW_none, errW_some] <;> rfl), by repeat (first | (with_reducible first | exact HB.out | apply below_alloc | apply pw_below_drewN | apply below_drew1) | exact HB.out)⟩
 ·rw [if_neg c2] at H
  have c2b0 : decide (1048576 < (l0.length : Int)) = false := decide_eq_false c2
  have c2b1 : decide (1048576 < l0.length) = false := decide_eq_false (by omega)
  clear c2
  replace H := Option.bind_eq_some_iff.mp H
  obtain ⟨t169, A30, H⟩ := H
  replace H : ((impl_EncodeBase.f k t169).bind fun bt170 => ((spec_EncodeBase.f k t169).bind fun bt174 => ((laws_mwTexts.f k bt170.1 bt174.1).bind fun t178 => (if t178 = true then (if (bt170.2 != bt174.2) = true then (laws_FnBaseWidth.j0 k t169 bt170.1 bt170.2 bt174.1 bt174.2 true) else (laws_FnBaseWidth.j0 k t169 bt170.1 bt170.2 bt174.1 bt174.2 (!bt170.2))) else (laws_FnBaseWidth.j0 k t169 bt170.1 bt170.2 bt174.1 bt174.2 true))))) = some r := H
  have A3 := Aside0.mk A30
  clear A30
  replace H := Option.bind_eq_some_iff.mp H
  obtain ⟨⟨t170, t171⟩, A40, H⟩ := H
  replace H : ((spec_EncodeBase.f k t169).bind fun bt174 => ((laws_mwTexts.f k t170 bt174.1).bind fun t178 => (if t178 = true then (if (t171 != bt174.2) = true then (laws_FnBaseWidth.j0 k t169 t170 t171 bt174.1 bt174.2 true) else (laws_FnBaseWidth.j0 k t169 t170 t171 bt174.1 bt174.2 (!t171))) else (laws_FnBaseWidth.j0 k t169 t170 t171 bt174.1 bt174.2 true)))) = some r := H
  have A4 := Aside0.mk A40
  clear A40
  replace H := Option.bind_eq_some_iff.mp H
  obtain ⟨⟨t174, t175⟩, A50, H⟩ := H
  replace H : ((laws_mwTexts.f k t170 t174).bind fun t178 => (if t178 = true then (if (t171 != t175) = true then (laws_FnBaseWidth.j0 k t169 t170 t171 t174 t175 true) else (laws_FnBaseWidth.j0 k t169 t170 t171 t174 t175 (!t171))) else (laws_FnBaseWidth.j0 k t169 t170 t171 t174 t175 true))) = some r := H
  have A5 := Aside0.mk A50
  clear A50
  have HC6 := Aside0.mk H
  clear H
  go_enter Try.func7, Try.ntmps7
  go_upto_region 6 with (first | ((with_reducible refine gate_callee (f := 24) rfl ?_); refine goesL_ (some 14) rfl rfl Try.func24 (by kernel_rfl) rfl #[.slice A0 l0.length c0] rfl (by (try simp only [List.map_toArray, List.map_cons, List.map_nil]); first | done | rfl | (simp only [List.length_drop, List.length_take]; rfl)) ?_; (with_reducible refine (spec_DrawEncodeBase.calls k _ _ l0 t169 _ ?side1 ?side2 A3.out).mono ?_); (case side1 => repeat (first | exact HR0.out | (with_reducible refine Kd.C_alloc ?_ _) | (with_reducible refine Kd.C_drewN ?_ _) | (with_reducible refine Kd.C_drew ?_))); (case side2 => exact HC0.out); rintro e w7 ⟨rfl, hb⟩; refine ⟨_, rfl, ?_⟩; have n0_ := Aside0.mk (below_step (by repeat (first | (with_reducible first | exact HB.out | apply below_alloc | apply pw_below_drewN | apply below_drew1) | exact HB.out)) hb); clear HB; have HB := n0_; clear n0_; (try clear hb); (try clear hb2); (try clear hk); (try clear hi)) | ((with_reducible refine gate_callee (f := 21) rfl ?_); refine goesL_ (some 17) rfl rfl Try.func21 (by kernel_rfl) rfl #[.string t169] rfl (by (try simp only [List.map_toArray, List.map_cons, List.map_nil]); first | done | rfl | (simp only [List.length_drop, List.length_take]; rfl)) ?_; (with_reducible refine (impl_EncodeBase.calls k t169 t170 t171 _ A4.out).mono ?_); rintro e w8 ⟨v172, rfl, ho0, hb⟩; refine ⟨_, rfl, ?_⟩; have n0_ := Aside0.mk (Kd.R_lower ho0 (below_size (by repeat (first | (with_reducible first | exact HB.out | apply below_alloc | apply pw_below_drewN | apply below_drew1) | exact HB.out)))); have n1_ := Aside0.mk (below_step (by repeat (first | (with_reducible first | exact HB.out | apply below_alloc | apply pw_below_drewN | apply below_drew1) | exact HB.out)) hb); clear HB; have HO173 := n0_; have HB := n1_; clear n0_ n1_; (try clear hb); (try clear hb2); (try clear hk); (try clear hi); (try clear ho0)) | ((with_reducible refine gate_callee (f := 20) rfl ?_); refine goesL_ (some 22) rfl rfl Try.func20 (by kernel_rfl) rfl #[.string t169] rfl (by (try simp only [List.map_toArray, List.map_cons, List.map_nil]); first | done | rfl | (simp only [List.length_drop, List.length_take]; rfl)) ?_; (with_reducible refine (spec_EncodeBase.calls k t169 t174 t175 _ A5.out).mono ?_); rintro e w9 ⟨v176, rfl, ho0, hb⟩; refine ⟨_, rfl, ?_⟩; have n0_ := Aside0.mk (Kd.R_elder' (by (with_reducible repeat (first | apply Kd.R_alloc | apply Kd.R_drewN | apply Kd.R_drew)); exact HO173.out) (Kd.R_base ho0) hb); have n1_ := Aside0.mk (Kd.R_lower (Kd.R_new' ho0 (Kd.R_lt (by (with_reducible repeat (first | apply Kd.R_alloc | apply Kd.R_drewN | apply Kd.R_drew)); exact HO173.out))) (below_size (by repeat (first | (with_reducible first | exact HB.out | apply below_alloc | apply pw_below_drewN | apply below_drew1) | exact HB.out)))); have n2_ := Aside0.mk (below_step (by repeat (first | (with_reducible first | exact HB.out | apply below_alloc | apply pw_below_drewN | apply below_drew1) | exact HB.out)) hb); clear HO173; clear HB; have HO173 := n0_; have HO177 := n1_; have HB := n2_; clear n0_ n1_ n2_; (try clear hb); (try clear hb2); (try clear hk); (try clear hi); (try clear ho0)))
  (try simp only [Act.put, List.setIfInBounds_toArray, List.set_cons_zero, List.set_cons_succ])
  go_cut [37] (fun v37 wc => ∃ (kq : Nat) (x37_5 : Bool), v37 = .bool x37_5 ∧ Aside0 (laws_FnBaseWidth.j0 kq t169 t170 t171 t174 t175 x37_5 = some r) ∧ Aside0 (kq ≤ k) ∧ Aside0 (Kd.R Kd.string 9 wc w.heap.size (fun k_ => some k_ ≠ (v176 : Value).ownBlock) v172 t170) ∧ Aside0 (Kd.R Kd.string 9 wc w.heap.size (fun k_ => some k_ ≠ (v172 : Value).ownBlock) v176 t174) ∧ Aside0 (Below w.heap.size w wc))
  case first =>
   have H := HC6.out
   clear HC6
   replace H := Option.bind_eq_some_iff.mp H
   obtain ⟨t178, A100, H⟩ := H
   replace H : (if t178 = true then (if (t171 != t175) = true then (laws_FnBaseWidth.j0 k t169 t170 t171 t174 t175 true) else (laws_FnBaseWidth.j0 k t169 t170 t171 t174 t175 (!t171))) else (laws_FnBaseWidth.j0 k t169 t170 t171 t174 t175 true)) = some r := H
   have A10 := Aside0.mk A100
   clear A100
   by_cases c11 : t178 = true
   ·subst c11
    have H1 : (if (t171 != t175) = true then (laws_FnBaseWidth.j0 k t169 t170 t171 t174 t175 true) else (laws_FnBaseWidth.j0 k t169 t170 t171 t174 t175 (!t171))) = some r := by rw [if_pos rfl] at H; exact H
    clear H
    have H := H1
    clear H1
    by_cases c12 : (t171 != t175) = true
    ·rw [if_pos c12] at H
     have c12b0 : (t171 != t175) = true := c12
     (try (have c12b1 : decide (t171 = t175) = false := by simpa using c12))
     (try (have c12b2 : (t171 == t175) = false := by simpa using c12))
     (try (have c12b3 : ¬ (t171 = t175) := by simpa using c12))
     clear c12
     (first | rw [c12b0] | (simp only [i64_w, i32_w]; rw [c12b0]) | skip)
     have H' := Aside0.mk H
     clear H
     obtain ⟨Ao13, co13, eo13⟩ := Kd.R_slice HO173.out
     subst eo13
     obtain ⟨Ao14, co14, eo14⟩ := Kd.R_slice HO177.out
     subst eo14
     go_wp2_with (first | ((with_reducible refine gate_callee (f := 23) rfl ?_); refine goesL_ (some 27) rfl rfl Try.func23 (by kernel_rfl) rfl #[.slice Ao13 t170.length co13, .slice Ao14 t174.length co14] rfl (by (try simp only [List.map_toArray, List.map_cons, List.map_nil]); first | done | rfl | (simp only [List.length_drop, List.length_take]; rfl)) ?_; (with_reducible refine (laws_mwTexts.calls k _ _ t170 _ _ t174 true _ ?side1 ?side2 ?side3 ?side4 A10.out).mono ?_); (case side1 => repeat (first | exact (Kd.R_reads' HO173.out).2.2 | (with_reducible refine Kd.C_alloc ?_ _) | (with_reducible refine Kd.C_drewN ?_ _) | (with_reducible refine Kd.C_drew ?_))); (case side2 => exact (Kd.R_reads' HO173.out).2.1); (case side3 => repeat (first | exact (Kd.R_reads' HO177.out).2.2 | (with_reducible refine Kd.C_alloc ?_ _) | (with_reducible refine Kd.C_drewN ?_ _) | (with_reducible refine Kd.C_drew ?_))); (case side4 => exact (Kd.R_reads' HO177.out).2.1); rintro e w' ⟨rfl, ⟨nd, rfl⟩⟩; refine ⟨_, rfl, ?_⟩))
     go_meet
     case rel => exact ⟨_, (true), (by first | rfl | (simp; done) | (simp [*]; done)), H', ⟨by first | omega | exact Nat.le_refl _⟩, ⟨by (with_reducible repeat (first | apply Kd.R_alloc | apply Kd.R_drewN | apply Kd.R_drew)); exact Kd.R_mono HO173.out (fun _ hk => hk.2)⟩, ⟨by (with_reducible repeat (first | apply Kd.R_alloc | apply Kd.R_drewN | apply Kd.R_drew)); exact Kd.R_mono HO177.out (fun _ hk => hk.2)⟩, ⟨by repeat (first | (with_reducible first | exact HB.out | apply below_alloc | apply pw_below_drewN | apply below_drew1) | exact HB.out)⟩⟩
    ·rw [if_neg c12] at H
     have c12b0 : (t171 != t175) = false := by simpa using c12
     (try (have c12b1 : decide (t171 = t175) = true := by simpa using c12))
     (try (have c12b2 : (t171 == t175) = true := by simpa using c12))
     clear c12
     (first | rw [c12b0] | (simp only [i64_w, i32_w]; rw [c12b0]) | skip)
     have H' := Aside0.mk H
     clear H
     obtain ⟨Ao15, co15, eo15⟩ := Kd.R_slice HO173.out
     subst eo15
     obtain ⟨Ao16, co16, eo16⟩ := Kd.R_slice HO177.out
     subst eo16
     go_wp2_with (first | ((with_reducible refine gate_callee (f := 23) rfl ?_); refine goesL_ (some 27) rfl rfl Try.func23 (by kernel_rfl) rfl #[.slice Ao15 t170.length co15, .slice Ao16 t174.length co16] rfl (by (try simp only [List.map_toArray, List.map_cons, List.map_nil]); first | done | rfl | (simp only [List.length_drop, List.length_take]; rfl)) ?_; (with_reducible refine (laws_mwTexts.calls k _ _ t170 _ _ t174 true _ ?side1 ?side2 ?side3 ?side4 A10.out).mono ?_); (case side1 => repeat (first | exact (Kd.R_reads' HO173.out).2.2 | (with_reducible refine Kd.C_alloc ?_ _) | (with_reducible refine Kd.C_drewN ?_ _) | (with_reducible refine Kd.C_drew ?_))); (case side2 => exact (Kd.R_reads' HO173.out).2.1); (case side3 => repeat (first | exact (Kd.R_reads' HO177.out).2.2 | (with_reducible refine Kd.C_alloc ?_ _) | (with_reducible refine Kd.C_drewN ?_ _) | (with_reducible refine Kd.C_drew ?_))); (case side4 => exact (Kd.R_reads' HO177.out).2.1); rintro e w' ⟨rfl, ⟨nd, rfl⟩⟩; refine ⟨_, rfl, ?_⟩))
     go_meet
     case rel => exact ⟨_, (!t171), (by first | rfl | (simp; done) | (simp [*]; done)), H', ⟨by first | omega | exact Nat.le_refl _⟩, ⟨by (with_reducible repeat (first | apply Kd.R_alloc | apply Kd.R_drewN | apply Kd.R_drew)); exact Kd.R_mono HO173.out (fun _ hk => hk.2)⟩, ⟨by (with_reducible repeat (first | apply Kd.R_alloc | apply Kd.R_drewN | apply Kd.R_drew)); exact Kd.R_mono HO177.out (fun _ hk => hk.2)⟩, ⟨by repeat (first | (with_reducible first | exact HB.out | apply below_alloc | apply pw_below_drewN | apply below_drew1) | exact HB.out)⟩⟩
   ·replace c11 := Bool.eq_false_iff.mpr c11
    subst c11
    have H1 : (laws_FnBaseWidth.j0 k t169 t170 t171 t174 t175 true) = some r := by rw [if_neg (show ¬ (false = true) by decide)] at H; exact H
    clear H
    have H := H1
    clear H1
    have H' := Aside0.mk H
    clear H
    obtain ⟨Ao17, co17, eo17⟩ := Kd.R_slice HO173.out
    subst eo17
    obtain ⟨Ao18, co18, eo18⟩ := Kd.R_slice HO177.out
    subst eo18
    go_wp2_with (first | ((with_reducible refine gate_callee (f := 23) rfl ?_); refine goesL_ (some 27) rfl rfl Try.func23 (by kernel_rfl) rfl #[.slice Ao17 t170.length co17, .slice Ao18 t174.length co18] rfl (by (try simp only [List.map_toArray, List.map_cons, List.map_nil]); first | done | rfl | (simp only [List.length_drop, List.length_take]; rfl)) ?_; (with_reducible refine (laws_mwTexts.calls k _ _ t170 _ _ t174 false _ ?side1 ?side2 ?side3 ?side4 A10.out).mono ?_); (case side1 => repeat (first | exact (Kd.R_reads' HO173.out).2.2 | (with_reducible refine Kd.C_alloc ?_ _) | (with_reducible refine Kd.C_drewN ?_ _) | (with_reducible refine Kd.C_drew ?_))); (case side2 => exact (Kd.R_reads' HO173.out).2.1); (case side3 => repeat (first | exact (Kd.R_reads' HO177.out).2.2 | (with_reducible refine Kd.C_alloc ?_ _) | (with_reducible refine Kd.C_drewN ?_ _) | (with_reducible refine Kd.C_drew ?_))); (case side4 => exact (Kd.R_reads' HO177.out).2.1); rintro e w' ⟨rfl, ⟨nd, rfl⟩⟩; refine ⟨_, rfl, ?_⟩))
    go_meet
    case rel => exact ⟨_, (true), (by first | rfl | (simp; done) | (simp [*]; done)), H', ⟨by first | omega | exact Nat.le_refl _⟩, ⟨by (with_reducible repeat (first | apply Kd.R_alloc | apply Kd.R_drewN | apply Kd.R_drew)); exact Kd.R_mono HO173.out (fun _ hk => hk.2)⟩, ⟨by (with_reducible repeat (first | apply Kd.R_alloc | apply Kd.R_drewN | apply Kd.R_drew)); exact Kd.R_mono HO177.out (fun _ hk => hk.2)⟩, ⟨by repeat (first | (with_reducible first | exact HB.out | apply below_alloc | apply pw_below_drewN | apply below_drew1) | exact HB.out)⟩⟩
  case rest =>
   clear HC6
   try clear c1
   try clear c2
   try clear c2b0
   try clear c2b1
   try clear p2
   try clear c7
   try clear c11
   try clear c12
   try clear c12b0
   try clear c12b1
   try clear c12b2
   obtain ⟨kq, x37_5, rfl, HA, HJ5, HO_4, HO_6, HB⟩ := hcut
   cases kq with
   | zero => exact absurd HA.out (by simp [laws_FnBaseWidth.j0])
   | succ kj5 =>
    have H := HA.out
    clear HA
    simp only [laws_FnBaseWidth.j0] at H
    by_cases c19 : x37_5 = true
    ·subst c19
     have H1 : ((laws_mwTexts.f kj5 t170 t174).bind fun t179 => (if t179 = true then (some (t171 == t175)) else (some false))) = some r := by rw [if_pos rfl] at H; exact H
     clear H
     have H := H1
     clear H1
     replace H := Option.bind_eq_some_iff.mp H
     obtain ⟨t179, A200, H⟩ := H
     replace H : (if t179 = true then (some (t171 == t175)) else (some false)) = some r := H
     have A20 := Aside0.mk A200
     clear A200
     by_cases c21 : t179 = true
     ·subst c21
      have H1 : (some (t171 == t175)) = some r := by rw [if_pos rfl] at H; exact H
      clear H
      have H := H1
      clear H1
      obtain rfl := Option.some.inj H
      obtain ⟨Ao22, co22, eo22⟩ := Kd.R_slice HO_4.out
      subst eo22
      obtain ⟨Ao23, co23, eo23⟩ := Kd.R_slice HO_6.out
      subst eo23
      go_wp2_with (first | ((with_reducible refine gate_callee (f := 23) rfl ?_); refine goesL_ (some 40) rfl rfl Try.func23 (by kernel_rfl) rfl #[.slice Ao22 t170.length co22, .slice Ao23 t174.length co23] rfl (by (try simp only [List.map_toArray, List.map_cons, List.map_nil]); first | done | rfl | (simp only [List.length_drop, List.length_take]; rfl)) ?_; (with_reducible refine (laws_mwTexts.calls kj5 _ _ t170 _ _ t174 true _ ?side1 ?side2 ?side3 ?side4 A20.out).mono ?_); (case side1 => repeat (first | exact (Kd.R_reads' HO_4.out).2.2 | (with_reducible refine Kd.C_alloc ?_ _) | (with_reducible refine Kd.C_drewN ?_ _) | (with_reducible refine Kd.C_drew ?_))); (case side2 => exact (Kd.R_reads' HO_4.out).2.1); (case side3 => repeat (first | exact (Kd.R_reads' HO_6.out).2.2 | (with_reducible refine Kd.C_alloc ?_ _) | (with_reducible refine Kd.C_drewN ?_ _) | (with_reducible refine Kd.C_drew ?_))); (case side4 => exact (Kd.R_reads' HO_6.out).2.1); rintro e w' ⟨rfl, ⟨nd, rfl⟩⟩; refine ⟨_, rfl, ?_⟩))
      go_ret
      exact ⟨by first | rfl | (simp [errW_none, errW_some] <;> rfl) | (simp [*, errW_none, errW_some] <;> rfl), by repeat (first | (with_reducible first | exact HB.out | apply below_alloc | apply pw_below_drewN | apply below_drew1) | exact HB.out)⟩
     ·replace c21 := Bool.eq_false_iff.mpr c21
      subst c21
      have H1 : (some false) = some r := by rw [if_neg (show ¬ (false = true) by decide)] at H; exact H
      clear H
      have H := H1
      clear H1
      obtain rfl := Option.some.inj H
      obtain ⟨Ao24, co24, eo24⟩ := Kd.R_slice HO_4.out
      subst eo24
      obtain ⟨Ao25, co25, eo25⟩ := Kd.R_slice HO_6.out
      subst eo25
      go_wp2_with (first | ((with_reducible refine gate_callee (f := 23) rfl ?_); refine goesL_ (some 40) rfl rfl Try.func23 (by kernel_rfl) rfl #[.slice Ao24 t170.length co24, .slice Ao25 t174.length co25] rfl (by (try simp only [List.map_toArray, List.map_cons, List.map_nil]); first | done | rfl | (simp only [List.length_drop, List.length_take]; rfl)) ?_; (with_reducible refine (laws_mwTexts.calls kj5 _ _ t170 _ _ t174 false _ ?side1 ?side2 ?side3 ?side4 A20.out).mono ?_); (case side1 => repeat (first | exact (Kd.R_reads' HO_4.out).2.2 | (with_reducible refine Kd.C_alloc ?_ _) | (with_reducible refine Kd.C_drewN ?_ _) | (with_reducible refine Kd.C_drew ?_))); (case side2 => exact (Kd.R_reads' HO_4.out).2.1); (case side3 => repeat (first | exact (Kd.R_reads' HO_6.out).2.2 | (with_reducible refine Kd.C_alloc ?_ _) | (with_reducible refine Kd.C_drewN ?_ _) | (with_reducible refine Kd.C_drew ?_))); (case side4 => exact (Kd.R_reads' HO_6.out).2.1); rintro e w' ⟨rfl, ⟨nd, rfl⟩⟩; refine ⟨_, rfl, ?_⟩))
      go_ret
      exact ⟨by first | rfl | (simp [errW_none, errW_some] <;> rfl) | (simp [*, errW_none, errW_some] <;> rfl), by repeat (first | (with_reducible first | exact HB.out | apply below_alloc | apply pw_below_drewN | apply below_drew1) | exact HB.out)⟩
    ·replace c19 := Bool.eq_false_iff.mpr c19
     subst c19
     have H1 : (laws_FnBaseWidth.l0 kj5 t169 t170 0) = some r := by rw [if_neg (show ¬ (false = true) by decide)] at H; exact H
     clear H
     have H := H1
     clear H1
     have H' := Aside0.mk H
     clear H
     go_wp2
     go_loopg [8] kj5 (fun kq v8 w' => ∃ (x8_2 : Int), v8 = .int .i64 x8_2 ∧ Aside0 (laws_FnBaseWidth.l0 kq t169 t170 x8_2 = some r) ∧ Aside0 (kq ≤ kj5) ∧ Aside0 (Kd.R Kd.string 9 w' w.heap.size (fun _ => True) v172 t170) ∧ Aside0 (Below w.heap.size w w'))
     case atStart => exact ⟨(0), (by first | rfl | (simp; done) | (simp [*]; done)), H', ⟨Nat.le_refl _⟩, ⟨by (with_reducible repeat (first | apply Kd.R_alloc | apply Kd.R_drewN | apply Kd.R_drew)); exact Kd.R_mono HO_4.out (fun _ hk => trivial)⟩, ⟨by repeat (first | (with_reducible first | exact HB.out | apply below_alloc | apply pw_below_drewN | apply below_drew1) | exact HB.out)⟩⟩
     case round =>
      clear H'
      try clear c1
      try clear c2
      try clear c2b0
      try clear c2b1
      try clear p2
      try clear c7
      try clear c11
      try clear c12
      try clear c12b0
      try clear c12b1
      try clear c12b2
      try clear c19
      try clear c20
      try clear c21
      try clear c23
      try clear c24
      try clear p2
      obtain ⟨x8_2, rfl, HA, HK2, HO_4, HB⟩ := hrel
      cases gk with
      | zero => exact absurd HA.out (by simp [laws_FnBaseWidth.l0])
      | succ k2 =>
       have H := HA.out
       clear HA
       simp only [laws_FnBaseWidth.l0] at H
       by_cases c26 : (wrap64 (x8_2 + 1)) < (t170.length : Int)
       ·rw [if_pos c26] at H
        have c26b0 : decide ((wrap64 (x8_2 + 1)) < (t170.length : Int)) = true := decide_eq_true c26
        clear c26
        by_cases c27 : 0 ≤ x8_2
        ·rw [if_pos c27] at H
         have c27b0 : decide (0 ≤ x8_2) = true := decide_eq_true c27
         clear c27
         by_cases c28 : x8_2 < (t170.length : Int)
         ·rw [if_pos c28] at H
          have c28b0 : decide (x8_2 < (t170.length : Int)) = true := decide_eq_true c28
          clear c28
          by_cases c29 : ((rdOf ByteArray.empty t170 x8_2).size : Int) = 40
          ·rw [if_pos c29] at H
           have c29b0 : (((rdOf ByteArray.empty t170 x8_2).size : Int) == 40) = true := beq_iff_eq.mpr c29
           have c29b1 : (((rdOf ByteArray.empty t170 x8_2).size : Int) != 40) = false := bne_eq_false_iff_eq.mpr c29
           clear c29
           have H' := Aside0.mk H
           clear H
           obtain ⟨Ao30, co30, eo30⟩ := Kd.R_slice HO_4.out
           subst eo30
           have p180 : 0 ≤ (x8_2 : Int) := of_decide_eq_true (by first | (with_reducible assumption) | assumption)
           have q180 : x8_2 < (t170.length : Int) := of_decide_eq_true (by first | (with_reducible assumption) | assumption)
           obtain ⟨ad180, e180, hx180_0⟩ := Kd.at_string (Kd.R_reads' HO_4.out).2.2 x8_2 p180 q180
           cases e180
           replace p180 := eq_true p180
           replace q180 := eq_true q180
           go_wp2
           go_roundg k2
           case measure => have := HJ5.out; have := HK2.out; omega
           case rel => exact ⟨(wrap64 (x8_2 + 1)), (by first | rfl | (simp; done) | (simp [*]; done)), H', ⟨by have := HJ5.out; have := HK2.out; omega⟩, ⟨by (with_reducible repeat (first | apply Kd.R_alloc | apply Kd.R_drewN | apply Kd.R_drew)); exact HO_4.out⟩, ⟨by repeat (first | (with_reducible first | exact HB.out | apply below_alloc | apply pw_below_drewN | apply below_drew1) | exact HB.out)⟩⟩
          ·rw [if_neg c29] at H
           have c29b0 : (((rdOf ByteArray.empty t170 x8_2).size : Int) == 40) = false := beq_eq_false_iff_ne.mpr c29
           have c29b1 : (((rdOf ByteArray.empty t170 x8_2).size : Int) != 40) = true := bne_iff_ne.mpr c29
           obtain rfl := Option.some.inj H
           obtain ⟨Ao31, co31, eo31⟩ := Kd.R_slice HO_4.out
           subst eo31
           have p180 : 0 ≤ (x8_2 : Int) := of_decide_eq_true (by first | (with_reducible assumption) | assumption)
           have q180 : x8_2 < (t170.length : Int) := of_decide_eq_true (by first | (with_reducible assumption) | assumption)
           obtain ⟨ad180, e180, hx180_0⟩ := Kd.at_string (Kd.R_reads' HO_4.out).2.2 x8_2 p180 q180
           cases e180
           replace p180 := eq_true p180
           replace q180 := eq_true q180
           go_wp2
           go_ret
           exact ⟨by first | rfl | (simp [errW_none, errW_some] <;> rfl) | (simp [*, errW_none, errW_some] <;> rfl), by repeat (first | (with_reducible first | exact HB.out | apply below_alloc | apply pw_below_drewN | apply below_drew1) | exact HB.out)⟩
         ·rw [if_neg c28] at H
          exact absurd H (by simp)
        ·rw [if_neg c27] at H
         exact absurd H (by simp)
       ·rw [if_neg c26] at H
        have c26b0 : decide ((wrap64 (x8_2 + 1)) < (t170.length : Int)) = false := decide_eq_false c26
        clear c26
        obtain ⟨ji32, hji32⟩ : ∃ j_ : Int, (wrap64 ((t170.length : Int) - 1)) = j_ := ⟨_, rfl⟩
        replace H : (if 0 ≤ (ji32) then (if (ji32) < (t170.length : Int) then (if ((rdOf ByteArray.empty t170 (ji32)).size : Int) ≤ 40 then (some ((decide (((rdOf ByteArray.empty t170 (ji32)).size : Int) > 0)) == (decide ((t169.size : Int) > 0)))) else (some false)) else (none)) else (none)) = some r := by first | (rw [hji32] at H; exact H) | (simp only [hji32] at H ⊢; exact H)
        have hji32w : (IntKind.i64.wrap ((t170.length : Int) - 1)) = ji32 := (i64_w _).trans hji32
        by_cases c33 : 0 ≤ (ji32)
        ·rw [if_pos c33] at H
         have c33b0 : decide (0 ≤ (ji32)) = true := decide_eq_true c33
         clear c33
         by_cases c34 : (ji32) < (t170.length : Int)
         ·rw [if_pos c34] at H
          have c34b0 : decide ((ji32) < (t170.length : Int)) = true := decide_eq_true c34
          clear c34
          by_cases c35 : ((rdOf ByteArray.empty t170 (ji32)).size : Int) ≤ 40
          ·rw [if_pos c35] at H
           have c35b0 : decide (((rdOf ByteArray.empty t170 (ji32)).size : Int) ≤ 40) = true := decide_eq_true c35
           have c35b1 : decide ((rdOf ByteArray.empty t170 (ji32)).size ≤ 40) = true := decide_eq_true (by omega)
           clear c35
           obtain rfl := Option.some.inj H
           obtain ⟨Ao36, co36, eo36⟩ := Kd.R_slice HO_4.out
           subst eo36
           have p181 : 0 ≤ ((ji32) : Int) := of_decide_eq_true (by first | (with_reducible assumption) | assumption)
           have q181 : (ji32) < (t170.length : Int) := of_decide_eq_true (by first | (with_reducible assumption) | assumption)
           obtain ⟨ad181, e181, hx181_0⟩ := Kd.at_string (Kd.R_reads' HO_4.out).2.2 (ji32) p181 q181
           cases e181
           replace p181 := eq_true p181
           replace q181 := eq_true q181
           go_wp2
           go_ret
           exact ⟨by first | rfl | (simp [errW_none, errW_some] <;> rfl) | (simp only [← hji32]; first | rfl | (simp [errW_none, errW_some] <;> rfl)) | (simp [*, errW_none, errW_some] <;> rfl), by repeat (first | (with_reducible first | exact HB.out | apply below_alloc | apply pw_below_drewN | apply below_drew1) | exact HB.out)⟩
          ·rw [if_neg c35] at H
           have c35b0 : decide (((rdOf ByteArray.empty t170 (ji32)).size : Int) ≤ 40) = false := decide_eq_false c35
           have c35b1 : decide ((rdOf ByteArray.empty t170 (ji32)).size ≤ 40) = false := decide_eq_false (by omega)
           clear c35
           obtain rfl := Option.some.inj H
           obtain ⟨Ao37, co37, eo37⟩ := Kd.R_slice HO_4.out
           subst eo37
           have p181 : 0 ≤ ((ji32) : Int) := of_decide_eq_true (by first | (with_reducible assumption) | assumption)
           have q181 : (ji32) < (t170.length : Int) := of_decide_eq_true (by first | (with_reducible assumption) | assumption)
           obtain ⟨ad181, e181, hx181_0⟩ := Kd.at_string (Kd.R_reads' HO_4.out).2.2 (ji32) p181 q181
           cases e181
           replace p181 := eq_true p181
           replace q181 := eq_true q181
           go_wp2
           go_ret
           exact ⟨by first | rfl | (simp [errW_none, errW_some] <;> rfl) | (simp only [← hji32]; first | rfl | (simp [errW_none, errW_some] <;> rfl)) | (simp [*, errW_none, errW_some] <;> rfl), by repeat (first | (with_reducible first | exact HB.out | apply below_alloc | apply pw_below_drewN | apply below_drew1) | exact HB.out)⟩
         ·rw [if_neg c34] at H
          exact absurd H (by simp)
        ·rw [if_neg c33] at H
         exact absurd H (by simp)

/-- THE ONE PURE STATEMENT of laws_FnBaseWidth: yours. -/
def laws_FnBaseWidth.Pure : Prop := ∀ (l0 : List Int), l0.length ≤ maxLen → l0.length * 1 ≤ 140737488351232 → (∀ x ∈ l0, (Lit.int .u8 x).wf = true) → ∃ k, laws_FnBaseWidth.f k l0 = some true
theorem laws_FnBaseWidth.walk (P : laws_FnBaseWidth.Pure) (a0 : Option Addr) (len0 cap0 : Nat) (z0 : List Int) (w : World) (w0 : (a0 = none ∧ len0 = 0 ∧ cap0 = 0 ∧ z0 = []) ∨ ∃ x, a0 = some x ∧ len0 ≤ cap0 ∧ cap0 ≤ maxLen ∧ z0.length = cap0 ∧ (∀ i, i < z0.length → w.cell? (x.add i) = some (.int .u8 (z0.getD i 0))) ∧ ∀ n ∈ z0, (Lit.int .u8 n).wf = true) (y0 : len0 * 1 ≤ 140737488351232) :
  Calls Try.prog 7 #[.slice a0 len0 cap0] w fun e w' => e = .returned (.bool true) ∧ Below w.heap.size w w' := by
 obtain ⟨l0, rfl, hr0, hm0, hw0, hc0⟩ := ReadsInt.ofRowC w0
 obtain ⟨k, h⟩ := P l0 hm0 y0 hw0
 refine (laws_FnBaseWidth.calls k _ _ l0 true w (Kd.C_of_reads (d := (0 : Int)) (h1 := fun _ => rfl) hr0) hc0 h).mono ?_
 rintro e w' ⟨rfl, hd⟩
 exact ⟨rfl, hd⟩

end Go.Proofs.Ytenplenjpliciaa.PFnBaseWidth
