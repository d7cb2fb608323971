-- Written by a program of this session (wip/tool/myprint.py) out of the translation.
import Derived.Test.YtenplenjpliciaaPFnQuotedPlainx0
import Derived.Test.YtenplenjpliciaaPFnQuotedPlainx2
import Derived.Test.YtenplenjpliciaaPFnQuotedPlainx3
import Derived.Test.YtenplenjpliciaaPFnQuotedPlainx4
namespace Go.Proofs.Ytenplenjpliciaa.PFnQuotedPlain
open Go.RowKit Go.Proofs.YtenplenjpliciaaW.PrintWords Go.Proofs.YtenplenjpliciaaW.PrintLast Go.Proofs.YtenplenjpliciaaW.PrintMore
attribute [local go_sem] max2_int min2_int max_two min_two max_three min_three max_four min_four   -- for this text's walks alone
set_option linter.unusedVariables false
set_option linter.unusedSimpArgs false

/-! ### laws_FnQuotedPlain: function 6 -/
mutual
def laws_FnQuotedPlain.j0 : Nat → ByteArray → List ByteArray → Bool → List ByteArray → Bool → Bool → Option (Bool)
 | 0, _, _, _, _, _, _ => none
 | k + 1, x3, x4, x5, x6, x7, x41 => if x41 = true then ((laws_mwTexts.f k x4 x6).bind fun t196 => (if t196 = true then (some (x5 == x7)) else (some false))) else (laws_FnQuotedPlain.l0 k x3 x4 0)
def laws_FnQuotedPlain.l0 : Nat → ByteArray → List ByteArray → Int → Option (Bool)
 | 0, _, _, _ => none
 | k + 1, x3, x4, x8 => if x8 < (x3.size : Int) then (if 0 ≤ x8 then (if (bt x3 x8) < 33 then (some true) else (if (bt x3 x8) > 126 then (some true) else (if (bt x3 x8) = 61 then (some true) else (laws_FnQuotedPlain.l0 k x3 x4 (wrap64 (x8 + 1)))))) else (none)) else (if (x4.length : Int) = 1 then (if 0 < (x4.length : Int) then (some ((rdOf ByteArray.empty x4 0).toList == x3.toList)) else (none)) else (some false))
end
def laws_FnQuotedPlain.f (k : Nat) (l0 : List Int) : Option (Bool) := if (l0.length : Int) > 1048576 then (some true) else ((spec_DrawEncodeQuoted.f k l0).bind fun t186 => ((impl_EncodeQuoted.f k t186).bind fun bt187 => ((spec_EncodeQuoted.f k t186).bind fun bt191 => ((laws_mwTexts.f k bt187.1 bt191.1).bind fun t195 => (if t195 = true then (if (bt187.2 != bt191.2) = true then (laws_FnQuotedPlain.j0 k t186 bt187.1 bt187.2 bt191.1 bt191.2 true) else (if bt187.2 = true then (laws_FnQuotedPlain.j0 k t186 bt187.1 bt187.2 bt191.1 bt191.2 (decide ((t186.size : Int) > 39))) else (laws_FnQuotedPlain.j0 k t186 bt187.1 bt187.2 bt191.1 bt191.2 true))) else (laws_FnQuotedPlain.j0 k t186 bt187.1 bt187.2 bt191.1 bt191.2 true))))))
theorem laws_FnQuotedPlain.mono_l : ∀ k, (∀ y0 y1 y2 y3 y4 y5, LeO (laws_FnQuotedPlain.j0 k y0 y1 y2 y3 y4 y5) (laws_FnQuotedPlain.j0 (k + 1) y0 y1 y2 y3 y4 y5)) ∧ (∀ y0 y1 y2, LeO (laws_FnQuotedPlain.l0 k y0 y1 y2) (laws_FnQuotedPlain.l0 (k + 1) y0 y1 y2))
 | 0 => ⟨fun _ _ _ _ _ _ r h => by simp [laws_FnQuotedPlain.j0] at h, fun _ _ _ r h => by simp [laws_FnQuotedPlain.l0] at h⟩
 | k + 1 => by
  obtain ⟨ih0, ih1⟩ := laws_FnQuotedPlain.mono_l k
  refine ⟨?_, ?_⟩
  ·intro y0 y1 y2 y3 y4 y5
   unfold laws_FnQuotedPlain.j0
   repeat' first
   | (with_reducible exact ih0 _ _ _ _ _ _)
   | (with_reducible exact ih1 _ _ _)
   | (with_reducible exact impl_EncodeQuoted.mono _ _)
   | (with_reducible exact laws_mwTexts.mono _ _ _)
   | (with_reducible exact spec_DrawEncodeQuoted.mono _ _)
   | (with_reducible exact spec_EncodeQuoted.mono _ _)
   | (with_reducible exact LeO.refl _)
   | (with_reducible exact LeO.none _)
   | (with_reducible refine LeO.ite ?_ ?_)
   | (with_reducible refine LeO.bind ?_ (fun _ => ?_))
   | exact ih0 _ _ _ _ _ _
   | exact ih1 _ _ _
   | exact impl_EncodeQuoted.mono _ _
   | exact laws_mwTexts.mono _ _ _
   | exact spec_DrawEncodeQuoted.mono _ _
   | exact spec_EncodeQuoted.mono _ _
   | exact LeO.none _
   | refine LeO.ite ?_ ?_
   | refine LeO.bind ?_ (fun _ => ?_)
  ·intro y0 y1 y2
   unfold laws_FnQuotedPlain.l0
   repeat' first
   | (with_reducible exact ih0 _ _ _ _ _ _)
   | (with_reducible exact ih1 _ _ _)
   | (with_reducible exact impl_EncodeQuoted.mono _ _)
   | (with_reducible exact laws_mwTexts.mono _ _ _)
   | (with_reducible exact spec_DrawEncodeQuoted.mono _ _)
   | (with_reducible exact spec_EncodeQuoted.mono _ _)
   | (with_reducible exact LeO.refl _)
   | (with_reducible exact LeO.none _)
   | (with_reducible refine LeO.ite ?_ ?_)
   | (with_reducible refine LeO.bind ?_ (fun _ => ?_))
   | exact ih0 _ _ _ _ _ _
   | exact ih1 _ _ _
   | exact impl_EncodeQuoted.mono _ _
   | exact laws_mwTexts.mono _ _ _
   | exact spec_DrawEncodeQuoted.mono _ _
   | exact spec_EncodeQuoted.mono _ _
   | exact LeO.none _
   | refine LeO.ite ?_ ?_
   | refine LeO.bind ?_ (fun _ => ?_)
theorem laws_FnQuotedPlain.mono : ∀ a0 k, LeO (laws_FnQuotedPlain.f k a0) (laws_FnQuotedPlain.f (k + 1) a0) := by
 intro a0 k
 obtain ⟨ih0, ih1⟩ := laws_FnQuotedPlain.mono_l k
 unfold laws_FnQuotedPlain.f
 repeat' first
   | (with_reducible exact ih0 _ _ _ _ _ _)
   | (with_reducible exact ih1 _ _ _)
   | (with_reducible exact impl_EncodeQuoted.mono _ _)
   | (with_reducible exact laws_mwTexts.mono _ _ _)
   | (with_reducible exact spec_DrawEncodeQuoted.mono _ _)
   | (with_reducible exact spec_EncodeQuoted.mono _ _)
   | (with_reducible exact LeO.refl _)
   | (with_reducible exact LeO.none _)
   | (with_reducible refine LeO.ite ?_ ?_)
   | (with_reducible refine LeO.bind ?_ (fun _ => ?_))
   | exact ih0 _ _ _ _ _ _
   | exact ih1 _ _ _
   | exact impl_EncodeQuoted.mono _ _
   | exact laws_mwTexts.mono _ _ _
   | exact spec_DrawEncodeQuoted.mono _ _
   | exact spec_EncodeQuoted.mono _ _
   | exact LeO.none _
   | refine LeO.ite ?_ ?_
   | refine LeO.bind ?_ (fun _ => ?_)
set_option maxHeartbeats 8000000 in
set_option maxRecDepth 100000 in
theorem laws_FnQuotedPlain.calls (k : Nat) (A0 : Option Addr) (c0 : Nat) (l0 : List Int) (r : Bool) (w : World) (hr0 : Kd.C (Kd.int .u8) w A0 l0.length l0) (hc0 : l0.length ≤ c0) (h : laws_FnQuotedPlain.f k l0 = some r) :
  Calls Try.prog 6 #[.slice A0 l0.length c0] w fun e w' => e = .returned (.bool r) ∧ Below w.heap.size w w' := by
 have HR0 := Aside0.mk hr0
 have HC0 := Aside0.mk hc0
 clear hr0 hc0
 have HB := Aside0.mk (Below.refl w.heap.size w)
 have H : (if (l0.length : Int) > 1048576 then (some true) else ((spec_DrawEncodeQuoted.f k l0).bind fun t186 => ((impl_EncodeQuoted.f k t186).bind fun bt187 => ((spec_EncodeQuoted.f k t186).bind fun bt191 => ((laws_mwTexts.f k bt187.1 bt191.1).bind fun t195 => (if t195 = true then (if (bt187.2 != bt191.2) = true then (laws_FnQuotedPlain.j0 k t186 bt187.1 bt187.2 bt191.1 bt191.2 true) else (if bt187.2 = true then (laws_FnQuotedPlain.j0 k t186 bt187.1 bt187.2 bt191.1 bt191.2 (decide ((t186.size : Int) > 39))) else (laws_FnQuotedPlain.j0 k t186 bt187.1 bt187.2 bt191.1 bt191.2 true))) else (laws_FnQuotedPlain.j0 k t186 bt187.1 bt187.2 bt191.1 bt191.2 true))))))) = some r := h
 clear h
 by_cases c2 : (l0.length : Int) > 1048576
 ·rw [if_pos c2] at H
  have c2b0 : decide (1048576 < (l0.length : Int)) = true := decide_eq_true c2
  have c2b1 : decide (1048576 < l0.length) = true := decide_eq_true (by omega)
  clear c2
  obtain rfl := Option.some.inj H
  go_enter Try.func6, Try.ntmps6
  go_wp2
  go_ret
  exact ⟨by first | rfl | (simp [errW_none, errW_some] <;> rfl) | (simp [*, errW_none, errW_some] <;> rfl), by repeat (first | (with_reducible first | exact HB.out | apply below_alloc | apply pw_below_drewN | apply below_drew1) | exact HB.out)⟩
 ·rw [if_neg c2] at H
  have c2b0 : decide (1048576 < (l0.length : Int)) = false := decide_eq_false c2
  have c2b1 : decide (1048576 < l0.length) = false := decide_eq_false (by omega)
  clear c2
  replace H := Option.bind_eq_some_iff.mp H
  obtain ⟨t186, A30, H⟩ := H
  replace H : ((impl_EncodeQuoted.f k t186).bind fun bt187 => ((spec_EncodeQuoted.f k t186).bind fun bt191 => ((laws_mwTexts.f k bt187.1 bt191.1).bind fun t195 => (if t195 = true then (if (bt187.2 != bt191.2) = true then (laws_FnQuotedPlain.j0 k t186 bt187.1 bt187.2 bt191.1 bt191.2 true) else (if bt187.2 = true then (laws_FnQuotedPlain.j0 k t186 bt187.1 bt187.2 bt191.1 bt191.2 (decide ((t186.size : Int) > 39))) else (laws_FnQuotedPlain.j0 k t186 bt187.1 bt187.2 bt191.1 bt191.2 true))) else (laws_FnQuotedPlain.j0 k t186 bt187.1 bt187.2 bt191.1 bt191.2 true))))) = some r := H
  have A3 := Aside0.mk A30
  clear A30
  replace H := Option.bind_eq_some_iff.mp H
  obtain ⟨⟨t187, t188⟩, A40, H⟩ := H
  replace H : ((spec_EncodeQuoted.f k t186).bind fun bt191 => ((laws_mwTexts.f k t187 bt191.1).bind fun t195 => (if t195 = true then (if (t188 != bt191.2) = true then (laws_FnQuotedPlain.j0 k t186 t187 t188 bt191.1 bt191.2 true) else (if t188 = true then (laws_FnQuotedPlain.j0 k t186 t187 t188 bt191.1 bt191.2 (decide ((t186.size : Int) > 39))) else (laws_FnQuotedPlain.j0 k t186 t187 t188 bt191.1 bt191.2 true))) else (laws_FnQuotedPlain.j0 k t186 t187 t188 bt191.1 bt191.2 true)))) = some r := H
  have A4 := Aside0.mk A40
  clear A40
  replace H := Option.bind_eq_some_iff.mp H
  obtain ⟨⟨t191, t192⟩, A50, H⟩ := H
  replace H : ((laws_mwTexts.f k t187 t191).bind fun t195 => (if t195 = true then (if (t188 != t192) = true then (laws_FnQuotedPlain.j0 k t186 t187 t188 t191 t192 true) else (if t188 = true then (laws_FnQuotedPlain.j0 k t186 t187 t188 t191 t192 (decide ((t186.size : Int) > 39))) else (laws_FnQuotedPlain.j0 k t186 t187 t188 t191 t192 true))) else (laws_FnQuotedPlain.j0 k t186 t187 t188 t191 t192 true))) = some r := H
  have A5 := Aside0.mk A50
  clear A50
  have HC6 := Aside0.mk H
  clear H
  go_enter Try.func6, Try.ntmps6
  go_upto_region 6 with (first | ((with_reducible refine gate_callee (f := 22) rfl ?_); refine goesL_ (some 13) rfl rfl Try.func22 (by kernel_rfl) rfl #[.slice A0 l0.length c0] rfl (by (try simp only [List.map_toArray, List.map_cons, List.map_nil]); first | done | rfl | (simp only [List.length_drop, List.length_take]; rfl)) ?_; (with_reducible refine (spec_DrawEncodeQuoted.calls k _ _ l0 t186 _ ?side1 ?side2 A3.out).mono ?_); (case side1 => repeat (first | exact HR0.out | (with_reducible refine Kd.C_alloc ?_ _) | (with_reducible refine Kd.C_drewN ?_ _) | (with_reducible refine Kd.C_drew ?_))); (case side2 => exact HC0.out); rintro e w7 ⟨rfl, hb⟩; refine ⟨_, rfl, ?_⟩; have n0_ := Aside0.mk (below_step (by repeat (first | (with_reducible first | exact HB.out | apply below_alloc | apply pw_below_drewN | apply below_drew1) | exact HB.out)) hb); clear HB; have HB := n0_; clear n0_; (try clear hb); (try clear hb2); (try clear hk); (try clear hi)) | ((with_reducible refine gate_callee (f := 16) rfl ?_); refine goesL_ (some 16) rfl rfl Try.func16 (by kernel_rfl) rfl #[.string t186] rfl (by (try simp only [List.map_toArray, List.map_cons, List.map_nil]); first | done | rfl | (simp only [List.length_drop, List.length_take]; rfl)) ?_; (with_reducible refine (impl_EncodeQuoted.calls k t186 t187 t188 _ A4.out).mono ?_); rintro e w8 ⟨v189, rfl, ho0, hb⟩; refine ⟨_, rfl, ?_⟩; have n0_ := Aside0.mk (Kd.R_lower ho0 (below_size (by repeat (first | (with_reducible first | exact HB.out | apply below_alloc | apply pw_below_drewN | apply below_drew1) | exact HB.out)))); have n1_ := Aside0.mk (below_step (by repeat (first | (with_reducible first | exact HB.out | apply below_alloc | apply pw_below_drewN | apply below_drew1) | exact HB.out)) hb); clear HB; have HO190 := n0_; have HB := n1_; clear n0_ n1_; (try clear hb); (try clear hb2); (try clear hk); (try clear hi); (try clear ho0)) | ((with_reducible refine gate_callee (f := 15) rfl ?_); refine goesL_ (some 21) rfl rfl Try.func15 (by kernel_rfl) rfl #[.string t186] rfl (by (try simp only [List.map_toArray, List.map_cons, List.map_nil]); first | done | rfl | (simp only [List.length_drop, List.length_take]; rfl)) ?_; (with_reducible refine (spec_EncodeQuoted.calls k t186 t191 t192 _ A5.out).mono ?_); rintro e w9 ⟨v193, rfl, ho0, hb⟩; refine ⟨_, rfl, ?_⟩; have n0_ := Aside0.mk (Kd.R_elder' (by (with_reducible repeat (first | apply Kd.R_alloc | apply Kd.R_drewN | apply Kd.R_drew)); exact HO190.out) (Kd.R_base ho0) hb); have n1_ := Aside0.mk (Kd.R_lower (Kd.R_new' ho0 (Kd.R_lt (by (with_reducible repeat (first | apply Kd.R_alloc | apply Kd.R_drewN | apply Kd.R_drew)); exact HO190.out))) (below_size (by repeat (first | (with_reducible first | exact HB.out | apply below_alloc | apply pw_below_drewN | apply below_drew1) | exact HB.out)))); have n2_ := Aside0.mk (below_step (by repeat (first | (with_reducible first | exact HB.out | apply below_alloc | apply pw_below_drewN | apply below_drew1) | exact HB.out)) hb); clear HO190; clear HB; have HO190 := n0_; have HO194 := n1_; have HB := n2_; clear n0_ n1_ n2_; (try clear hb); (try clear hb2); (try clear hk); (try clear hi); (try clear ho0)))
  (try simp only [Act.put, List.setIfInBounds_toArray, List.set_cons_zero, List.set_cons_succ])
  go_cut [41] (fun v41 wc => ∃ (kq : Nat) (x41_5 : Bool), v41 = .bool x41_5 ∧ Aside0 (laws_FnQuotedPlain.j0 kq t186 t187 t188 t191 t192 x41_5 = some r) ∧ Aside0 (kq ≤ k) ∧ Aside0 (Kd.R Kd.string 9 wc w.heap.size (fun k_ => some k_ ≠ (v193 : Value).ownBlock) v189 t187) ∧ Aside0 (Kd.R Kd.string 9 wc w.heap.size (fun k_ => some k_ ≠ (v189 : Value).ownBlock) v193 t191) ∧ Aside0 (Below w.heap.size w wc))
  case first =>
   have H := HC6.out
   clear HC6
   replace H := Option.bind_eq_some_iff.mp H
   obtain ⟨t195, A100, H⟩ := H
   replace H : (if t195 = true then (if (t188 != t192) = true then (laws_FnQuotedPlain.j0 k t186 t187 t188 t191 t192 true) else (if t188 = true then (laws_FnQuotedPlain.j0 k t186 t187 t188 t191 t192 (decide ((t186.size : Int) > 39))) else (laws_FnQuotedPlain.j0 k t186 t187 t188 t191 t192 true))) else (laws_FnQuotedPlain.j0 k t186 t187 t188 t191 t192 true)) = some r := H
   have A10 := Aside0.mk A100
   clear A100
   by_cases c11 : t195 = true
   ·subst c11
    have H1 : (if (t188 != t192) = true then (laws_FnQuotedPlain.j0 k t186 t187 t188 t191 t192 true) else (if t188 = true then (laws_FnQuotedPlain.j0 k t186 t187 t188 t191 t192 (decide ((t186.size : Int) > 39))) else (laws_FnQuotedPlain.j0 k t186 t187 t188 t191 t192 true))) = some r := by rw [if_pos rfl] at H; exact H
    clear H
    have H := H1
    clear H1
    by_cases c12 : (t188 != t192) = true
    ·rw [if_pos c12] at H
     have c12b0 : (t188 != t192) = true := c12
     (try (have c12b1 : decide (t188 = t192) = false := by simpa using c12))
     (try (have c12b2 : (t188 == t192) = false := by simpa using c12))
     (try (have c12b3 : ¬ (t188 = t192) := by simpa using c12))
     clear c12
     (first | rw [c12b0] | (simp only [i64_w, i32_w]; rw [c12b0]) | skip)
     have H' := Aside0.mk H
     clear H
     obtain ⟨Ao13, co13, eo13⟩ := Kd.R_slice HO190.out
     subst eo13
     obtain ⟨Ao14, co14, eo14⟩ := Kd.R_slice HO194.out
     subst eo14
     go_wp2_with (first | ((with_reducible refine gate_callee (f := 23) rfl ?_); refine goesL_ (some 26) rfl rfl Try.func23 (by kernel_rfl) rfl #[.slice Ao13 t187.length co13, .slice Ao14 t191.length co14] rfl (by (try simp only [List.map_toArray, List.map_cons, List.map_nil]); first | done | rfl | (simp only [List.length_drop, List.length_take]; rfl)) ?_; (with_reducible refine (laws_mwTexts.calls k _ _ t187 _ _ t191 true _ ?side1 ?side2 ?side3 ?side4 A10.out).mono ?_); (case side1 => repeat (first | exact (Kd.R_reads' HO190.out).2.2 | (with_reducible refine Kd.C_alloc ?_ _) | (with_reducible refine Kd.C_drewN ?_ _) | (with_reducible refine Kd.C_drew ?_))); (case side2 => exact (Kd.R_reads' HO190.out).2.1); (case side3 => repeat (first | exact (Kd.R_reads' HO194.out).2.2 | (with_reducible refine Kd.C_alloc ?_ _) | (with_reducible refine Kd.C_drewN ?_ _) | (with_reducible refine Kd.C_drew ?_))); (case side4 => exact (Kd.R_reads' HO194.out).2.1); rintro e w' ⟨rfl, ⟨nd, rfl⟩⟩; refine ⟨_, rfl, ?_⟩))
     go_meet
     case rel => exact ⟨_, (true), (by first | rfl | (simp; done) | (simp [*]; done)), H', ⟨by first | omega | exact Nat.le_refl _⟩, ⟨by (with_reducible repeat (first | apply Kd.R_alloc | apply Kd.R_drewN | apply Kd.R_drew)); exact Kd.R_mono HO190.out (fun _ hk => hk.2)⟩, ⟨by (with_reducible repeat (first | apply Kd.R_alloc | apply Kd.R_drewN | apply Kd.R_drew)); exact Kd.R_mono HO194.out (fun _ hk => hk.2)⟩, ⟨by repeat (first | (with_reducible first | exact HB.out | apply below_alloc | apply pw_below_drewN | apply below_drew1) | exact HB.out)⟩⟩
    ·rw [if_neg c12] at H
     have c12b0 : (t188 != t192) = false := by simpa using c12
     (try (have c12b1 : decide (t188 = t192) = true := by simpa using c12))
     (try (have c12b2 : (t188 == t192) = true := by simpa using c12))
     clear c12
     (first | rw [c12b0] | (simp only [i64_w, i32_w]; rw [c12b0]) | skip)
     by_cases c15 : t188 = true
     ·subst c15
      have H1 : (laws_FnQuotedPlain.j0 k t186 t187 true t191 t192 (decide ((t186.size : Int) > 39))) = some r := by rw [if_pos rfl] at H; exact H
      clear H
      have H := H1
      clear H1
      have H' := Aside0.mk H
      clear H
      obtain ⟨Ao16, co16, eo16⟩ := Kd.R_slice HO190.out
      subst eo16
      obtain ⟨Ao17, co17, eo17⟩ := Kd.R_slice HO194.out
      subst eo17
      go_wp2_with (first | ((with_reducible refine gate_callee (f := 23) rfl ?_); refine goesL_ (some 26) rfl rfl Try.func23 (by kernel_rfl) rfl #[.slice Ao16 t187.length co16, .slice Ao17 t191.length co17] rfl (by (try simp only [List.map_toArray, List.map_cons, List.map_nil]); first | done | rfl | (simp only [List.length_drop, List.length_take]; rfl)) ?_; (with_reducible refine (laws_mwTexts.calls k _ _ t187 _ _ t191 true _ ?side1 ?side2 ?side3 ?side4 A10.out).mono ?_); (case side1 => repeat (first | exact (Kd.R_reads' HO190.out).2.2 | (with_reducible refine Kd.C_alloc ?_ _) | (with_reducible refine Kd.C_drewN ?_ _) | (with_reducible refine Kd.C_drew ?_))); (case side2 => exact (Kd.R_reads' HO190.out).2.1); (case side3 => repeat (first | exact (Kd.R_reads' HO194.out).2.2 | (with_reducible refine Kd.C_alloc ?_ _) | (with_reducible refine Kd.C_drewN ?_ _) | (with_reducible refine Kd.C_drew ?_))); (case side4 => exact (Kd.R_reads' HO194.out).2.1); rintro e w' ⟨rfl, ⟨nd, rfl⟩⟩; refine ⟨_, rfl, ?_⟩))
      go_meet
      case rel => exact ⟨_, (decide ((t186.size : Int) > 39)), (by first | rfl | (simp; done) | (simp [*]; done)), H', ⟨by first | omega | exact Nat.le_refl _⟩, ⟨by (with_reducible repeat (first | apply Kd.R_alloc | apply Kd.R_drewN | apply Kd.R_drew)); exact Kd.R_mono HO190.out (fun _ hk => hk.2)⟩, ⟨by (with_reducible repeat (first | apply Kd.R_alloc | apply Kd.R_drewN | apply Kd.R_drew)); exact Kd.R_mono HO194.out (fun _ hk => hk.2)⟩, ⟨by repeat (first | (with_reducible first | exact HB.out | apply below_alloc | apply pw_below_drewN | apply below_drew1) | exact HB.out)⟩⟩
     ·replace c15 := Bool.eq_false_iff.mpr c15
      subst c15
      have H1 : (laws_FnQuotedPlain.j0 k t186 t187 false t191 t192 true) = some r := by rw [if_neg (show ¬ (false = true) by decide)] at H; exact H
      clear H
      have H := H1
      clear H1
      have H' := Aside0.mk H
      clear H
      obtain ⟨Ao18, co18, eo18⟩ := Kd.R_slice HO190.out
      subst eo18
      obtain ⟨Ao19, co19, eo19⟩ := Kd.R_slice HO194.out
      subst eo19
      go_wp2_with (first | ((with_reducible refine gate_callee (f := 23) rfl ?_); refine goesL_ (some 26) rfl rfl Try.func23 (by kernel_rfl) rfl #[.slice Ao18 t187.length co18, .slice Ao19 t191.length co19] rfl (by (try simp only [List.map_toArray, List.map_cons, List.map_nil]); first | done | rfl | (simp only [List.length_drop, List.length_take]; rfl)) ?_; (with_reducible refine (laws_mwTexts.calls k _ _ t187 _ _ t191 true _ ?side1 ?side2 ?side3 ?side4 A10.out).mono ?_); (case side1 => repeat (first | exact (Kd.R_reads' HO190.out).2.2 | (with_reducible refine Kd.C_alloc ?_ _) | (with_reducible refine Kd.C_drewN ?_ _) | (with_reducible refine Kd.C_drew ?_))); (case side2 => exact (Kd.R_reads' HO190.out).2.1); (case side3 => repeat (first | exact (Kd.R_reads' HO194.out).2.2 | (with_reducible refine Kd.C_alloc ?_ _) | (with_reducible refine Kd.C_drewN ?_ _) | (with_reducible refine Kd.C_drew ?_))); (case side4 => exact (Kd.R_reads' HO194.out).2.1); rintro e w' ⟨rfl, ⟨nd, rfl⟩⟩; refine ⟨_, rfl, ?_⟩))
      go_meet
      case rel => exact ⟨_, (true), (by first | rfl | (simp; done) | (simp [*]; done)), H', ⟨by first | omega | exact Nat.le_refl _⟩, ⟨by (with_reducible repeat (first | apply Kd.R_alloc | apply Kd.R_drewN | apply Kd.R_drew)); exact Kd.R_mono HO190.out (fun _ hk => hk.2)⟩, ⟨by (with_reducible repeat (first | apply Kd.R_alloc | apply Kd.R_drewN | apply Kd.R_drew)); exact Kd.R_mono HO194.out (fun _ hk => hk.2)⟩, ⟨by repeat (first | (with_reducible first | exact HB.out | apply below_alloc | apply pw_below_drewN | apply below_drew1) | exact HB.out)⟩⟩
   ·replace c11 := Bool.eq_false_iff.mpr c11
    subst c11
    have H1 : (laws_FnQuotedPlain.j0 k t186 t187 t188 t191 t192 true) = some r := by rw [if_neg (show ¬ (false = true) by decide)] at H; exact H
    clear H
    have H := H1
    clear H1
    have H' := Aside0.mk H
    clear H
    obtain ⟨Ao20, co20, eo20⟩ := Kd.R_slice HO190.out
    subst eo20
    obtain ⟨Ao21, co21, eo21⟩ := Kd.R_slice HO194.out
    subst eo21
    go_wp2_with (first | ((with_reducible refine gate_callee (f := 23) rfl ?_); refine goesL_ (some 26) rfl rfl Try.func23 (by kernel_rfl) rfl #[.slice Ao20 t187.length co20, .slice Ao21 t191.length co21] rfl (by (try simp only [List.map_toArray, List.map_cons, List.map_nil]); first | done | rfl | (simp only [List.length_drop, List.length_take]; rfl)) ?_; (with_reducible refine (laws_mwTexts.calls k _ _ t187 _ _ t191 false _ ?side1 ?side2 ?side3 ?side4 A10.out).mono ?_); (case side1 => repeat (first | exact (Kd.R_reads' HO190.out).2.2 | (with_reducible refine Kd.C_alloc ?_ _) | (with_reducible refine Kd.C_drewN ?_ _) | (with_reducible refine Kd.C_drew ?_))); (case side2 => exact (Kd.R_reads' HO190.out).2.1); (case side3 => repeat (first | exact (Kd.R_reads' HO194.out).2.2 | (with_reducible refine Kd.C_alloc ?_ _) | (with_reducible refine Kd.C_drewN ?_ _) | (with_reducible refine Kd.C_drew ?_))); (case side4 => exact (Kd.R_reads' HO194.out).2.1); rintro e w' ⟨rfl, ⟨nd, rfl⟩⟩; refine ⟨_, rfl, ?_⟩))
    go_meet
    case rel => exact ⟨_, (true), (by first | rfl | (simp; done) | (simp [*]; done)), H', ⟨by first | omega | exact Nat.le_refl _⟩, ⟨by (with_reducible repeat (first | apply Kd.R_alloc | apply Kd.R_drewN | apply Kd.R_drew)); exact Kd.R_mono HO190.out (fun _ hk => hk.2)⟩, ⟨by (with_reducible repeat (first | apply Kd.R_alloc | apply Kd.R_drewN | apply Kd.R_drew)); exact Kd.R_mono HO194.out (fun _ hk => hk.2)⟩, ⟨by repeat (first | (with_reducible first | exact HB.out | apply below_alloc | apply pw_below_drewN | apply below_drew1) | exact HB.out)⟩⟩
  case rest =>
   clear HC6
   try clear c1
   try clear c2
   try clear c2b0
   try clear c2b1
   try clear p2
   try clear c6
   try clear c11
   try clear c12
   try clear c12b0
   try clear c12b1
   try clear c12b2
   try clear c15
   try clear c16
   obtain ⟨kq, x41_5, rfl, HA, HJ5, HO_4, HO_6, HB⟩ := hcut
   cases kq with
   | zero => exact absurd HA.out (by simp [laws_FnQuotedPlain.j0])
   | succ kj5 =>
    have H := HA.out
    clear HA
    simp only [laws_FnQuotedPlain.j0] at H
    by_cases c22 : x41_5 = true
    ·subst c22
     have H1 : ((laws_mwTexts.f kj5 t187 t191).bind fun t196 => (if t196 = true then (some (t188 == t192)) else (some false))) = some r := by rw [if_pos rfl] at H; exact H
     clear H
     have H := H1
     clear H1
     replace H := Option.bind_eq_some_iff.mp H
     obtain ⟨t196, A230, H⟩ := H
     replace H : (if t196 = true then (some (t188 == t192)) else (some false)) = some r := H
     have A23 := Aside0.mk A230
     clear A230
     by_cases c24 : t196 = true
     ·subst c24
      have H1 : (some (t188 == t192)) = some r := by rw [if_pos rfl] at H; exact H
      clear H
      have H := H1
      clear H1
      obtain rfl := Option.some.inj H
      obtain ⟨Ao25, co25, eo25⟩ := Kd.R_slice HO_4.out
      subst eo25
      obtain ⟨Ao26, co26, eo26⟩ := Kd.R_slice HO_6.out
      subst eo26
      go_wp2_with (first | ((with_reducible refine gate_callee (f := 23) rfl ?_); refine goesL_ (some 44) rfl rfl Try.func23 (by kernel_rfl) rfl #[.slice Ao25 t187.length co25, .slice Ao26 t191.length co26] rfl (by (try simp only [List.map_toArray, List.map_cons, List.map_nil]); first | done | rfl | (simp only [List.length_drop, List.length_take]; rfl)) ?_; (with_reducible refine (laws_mwTexts.calls kj5 _ _ t187 _ _ t191 true _ ?side1 ?side2 ?side3 ?side4 A23.out).mono ?_); (case side1 => repeat (first | exact (Kd.R_reads' HO_4.out).2.2 | (with_reducible refine Kd.C_alloc ?_ _) | (with_reducible refine Kd.C_drewN ?_ _) | (with_reducible refine Kd.C_drew ?_))); (case side2 => exact (Kd.R_reads' HO_4.out).2.1); (case side3 => repeat (first | exact (Kd.R_reads' HO_6.out).2.2 | (with_reducible refine Kd.C_alloc ?_ _) | (with_reducible refine Kd.C_drewN ?_ _) | (with_reducible refine Kd.C_drew ?_))); (case side4 => exact (Kd.R_reads' HO_6.out).2.1); rintro e w' ⟨rfl, ⟨nd, rfl⟩⟩; refine ⟨_, rfl, ?_⟩))
      go_ret
      exact ⟨by first | rfl | (simp [errW_none, errW_some] <;> rfl) | (simp [*, errW_none, errW_some] <;> rfl), by repeat (first | (with_reducible first | exact HB.out | apply below_alloc | apply pw_below_drewN | apply below_drew1) | exact HB.out)⟩
     ·replace c24 := Bool.eq_false_iff.mpr c24
      subst c24
      have H1 : (some false) = some r := by rw [if_neg (show ¬ (false = true) by decide)] at H; exact H
      clear H
      have H := H1
      clear H1
      obtain rfl := Option.some.inj H
      obtain ⟨Ao27, co27, eo27⟩ := Kd.R_slice HO_4.out
      subst eo27
      obtain ⟨Ao28, co28, eo28⟩ := Kd.R_slice HO_6.out
      subst eo28
      go_wp2_with (first | ((with_reducible refine gate_callee (f := 23) rfl ?_); refine goesL_ (some 44) rfl rfl Try.func23 (by kernel_rfl) rfl #[.slice Ao27 t187.length co27, .slice Ao28 t191.length co28] rfl (by (try simp only [List.map_toArray, List.map_cons, List.map_nil]); first | done | rfl | (simp only [List.length_drop, List.length_take]; rfl)) ?_; (with_reducible refine (laws_mwTexts.calls kj5 _ _ t187 _ _ t191 false _ ?side1 ?side2 ?side3 ?side4 A23.out).mono ?_); (case side1 => repeat (first | exact (Kd.R_reads' HO_4.out).2.2 | (with_reducible refine Kd.C_alloc ?_ _) | (with_reducible refine Kd.C_drewN ?_ _) | (with_reducible refine Kd.C_drew ?_))); (case side2 => exact (Kd.R_reads' HO_4.out).2.1); (case side3 => repeat (first | exact (Kd.R_reads' HO_6.out).2.2 | (with_reducible refine Kd.C_alloc ?_ _) | (with_reducible refine Kd.C_drewN ?_ _) | (with_reducible refine Kd.C_drew ?_))); (case side4 => exact (Kd.R_reads' HO_6.out).2.1); rintro e w' ⟨rfl, ⟨nd, rfl⟩⟩; refine ⟨_, rfl, ?_⟩))
      go_ret
      exact ⟨by first | rfl | (simp [errW_none, errW_some] <;> rfl) | (simp [*, errW_none, errW_some] <;> rfl), by repeat (first | (with_reducible first | exact HB.out | apply below_alloc | apply pw_below_drewN | apply below_drew1) | exact HB.out)⟩
    ·replace c22 := Bool.eq_false_iff.mpr c22
     subst c22
     have H1 : (laws_FnQuotedPlain.l0 kj5 t186 t187 0) = some r := by rw [if_neg (show ¬ (false = true) by decide)] at H; exact H
     clear H
     have H := H1
     clear H1
     have H' := Aside0.mk H
     clear H
     go_wp2
     go_loopg [8] kj5 (fun kq v8 w' => ∃ (x8_2 : Int), v8 = .int .i64 x8_2 ∧ Aside0 (laws_FnQuotedPlain.l0 kq t186 t187 x8_2 = some r) ∧ Aside0 (kq ≤ kj5) ∧ Aside0 (Kd.R Kd.string 9 w' w.heap.size (fun _ => True) v189 t187) ∧ Aside0 (Below w.heap.size w w'))
     case atStart => exact ⟨(0), (by first | rfl | (simp; done) | (simp [*]; done)), H', ⟨Nat.le_refl _⟩, ⟨by (with_reducible repeat (first | apply Kd.R_alloc | apply Kd.R_drewN | apply Kd.R_drew)); exact Kd.R_mono HO_4.out (fun _ hk => trivial)⟩, ⟨by repeat (first | (with_reducible first | exact HB.out | apply below_alloc | apply pw_below_drewN | apply below_drew1) | exact HB.out)⟩⟩
     case round =>
      clear H'
      try clear c1
      try clear c2
      try clear c2b0
      try clear c2b1
      try clear p2
      try clear c6
      try clear c11
      try clear c12
      try clear c12b0
      try clear c12b1
      try clear c12b2
      try clear c15
      try clear c16
      try clear c22
      try clear c23
      try clear c24
      try clear p2
      obtain ⟨x8_2, rfl, HA, HK2, HO_4, HB⟩ := hrel
      cases gk with
      | zero => exact absurd HA.out (by simp [laws_FnQuotedPlain.l0])
      | succ k2 =>
       have H := HA.out
       clear HA
       simp only [laws_FnQuotedPlain.l0] at H
       by_cases c29 : x8_2 < (t186.size : Int)
       ·rw [if_pos c29] at H
        have c29b0 : decide (x8_2 < (t186.size : Int)) = true := decide_eq_true c29
        clear c29
        by_cases c30 : 0 ≤ x8_2
        ·rw [if_pos c30] at H
         have c30b0 : decide (0 ≤ x8_2) = true := decide_eq_true c30
         clear c30
         by_cases c32 : (bt t186 x8_2) < 33
         ·rw [if_pos c32] at H
          have c32b0 : decide ((bt t186 x8_2) < 33) = true := decide_eq_true c32
          clear c32
          obtain rfl := Option.some.inj H
          have p31 : 0 ≤ (x8_2 : Int) := of_decide_eq_true (by first | (with_reducible assumption) | assumption)
          have q31 : x8_2 < (t186.size : Int) := of_decide_eq_true (by first | (with_reducible assumption) | assumption)
          have hx31 := bt_at t186 x8_2
          replace p31 := eq_true p31
          replace q31 := eq_true q31
          go_wp2
          go_ret
          exact ⟨by first | rfl | (simp [errW_none, errW_some] <;> rfl) | (simp [*, errW_none, errW_some] <;> rfl), by repeat (first | (with_reducible first | exact HB.out | apply below_alloc | apply pw_below_drewN | apply below_drew1) | exact HB.out)⟩
         ·rw [if_neg c32] at H
          have c32b0 : decide ((bt t186 x8_2) < 33) = false := decide_eq_false c32
          clear c32
          by_cases c34 : (bt t186 x8_2) > 126
          ·rw [if_pos c34] at H
           have c34b0 : decide (126 < (bt t186 x8_2)) = true := decide_eq_true c34
           clear c34
           obtain rfl := Option.some.inj H
           have p31 : 0 ≤ (x8_2 : Int) := of_decide_eq_true (by first | (with_reducible assumption) | assumption)
           have q31 : x8_2 < (t186.size : Int) := of_decide_eq_true (by first | (with_reducible assumption) | assumption)
           have hx31 := bt_at t186 x8_2
           replace p31 := eq_true p31
           replace q31 := eq_true q31
           have p33 : 0 ≤ (x8_2 : Int) := of_decide_eq_true (by first | (with_reducible assumption) | assumption)
           have q33 : x8_2 < (t186.size : Int) := of_decide_eq_true (by first | (with_reducible assumption) | assumption)
           have hx33 := bt_at t186 x8_2
           replace p33 := eq_true p33
           replace q33 := eq_true q33
           go_wp2
           go_ret
           exact ⟨by first | rfl | (simp [errW_none, errW_some] <;> rfl) | (simp [*, errW_none, errW_some] <;> rfl), by repeat (first | (with_reducible first | exact HB.out | apply below_alloc | apply pw_below_drewN | apply below_drew1) | exact HB.out)⟩
          ·rw [if_neg c34] at H
           have c34b0 : decide (126 < (bt t186 x8_2)) = false := decide_eq_false c34
           clear c34
           by_cases c36 : (bt t186 x8_2) = 61
           ·rw [if_pos c36] at H
            have c36b0 : ((bt t186 x8_2) == 61) = true := beq_iff_eq.mpr c36
            have c36b1 : ((bt t186 x8_2) != 61) = false := bne_eq_false_iff_eq.mpr c36
            clear c36
            obtain rfl := Option.some.inj H
            have p31 : 0 ≤ (x8_2 : Int) := of_decide_eq_true (by first | (with_reducible assumption) | assumption)
            have q31 : x8_2 < (t186.size : Int) := of_decide_eq_true (by first | (with_reducible assumption) | assumption)
            have hx31 := bt_at t186 x8_2
            replace p31 := eq_true p31
            replace q31 := eq_true q31
            have p33 : 0 ≤ (x8_2 : Int) := of_decide_eq_true (by first | (with_reducible assumption) | assumption)
            have q33 : x8_2 < (t186.size : Int) := of_decide_eq_true (by first | (with_reducible assumption) | assumption)
            have hx33 := bt_at t186 x8_2
            replace p33 := eq_true p33
            replace q33 := eq_true q33
            have p35 : 0 ≤ (x8_2 : Int) := of_decide_eq_true (by first | (with_reducible assumption) | assumption)
            have q35 : x8_2 < (t186.size : Int) := of_decide_eq_true (by first | (with_reducible assumption) | assumption)
            have hx35 := bt_at t186 x8_2
            replace p35 := eq_true p35
            replace q35 := eq_true q35
            go_wp2
            go_ret
            exact ⟨by first | rfl | (simp [errW_none, errW_some] <;> rfl) | (simp [*, errW_none, errW_some] <;> rfl), by repeat (first | (with_reducible first | exact HB.out | apply below_alloc | apply pw_below_drewN | apply below_drew1) | exact HB.out)⟩
           ·rw [if_neg c36] at H
            have c36b0 : ((bt t186 x8_2) == 61) = false := beq_eq_false_iff_ne.mpr c36
            have c36b1 : ((bt t186 x8_2) != 61) = true := bne_iff_ne.mpr c36
            have H' := Aside0.mk H
            clear H
            have p31 : 0 ≤ (x8_2 : Int) := of_decide_eq_true (by first | (with_reducible assumption) | assumption)
            have q31 : x8_2 < (t186.size : Int) := of_decide_eq_true (by first | (with_reducible assumption) | assumption)
            have hx31 := bt_at t186 x8_2
            replace p31 := eq_true p31
            replace q31 := eq_true q31
            have p33 : 0 ≤ (x8_2 : Int) := of_decide_eq_true (by first | (with_reducible assumption) | assumption)
            have q33 : x8_2 < (t186.size : Int) := of_decide_eq_true (by first | (with_reducible assumption) | assumption)
            have hx33 := bt_at t186 x8_2
            replace p33 := eq_true p33
            replace q33 := eq_true q33
            have p35 : 0 ≤ (x8_2 : Int) := of_decide_eq_true (by first | (with_reducible assumption) | assumption)
            have q35 : x8_2 < (t186.size : Int) := of_decide_eq_true (by first | (with_reducible assumption) | assumption)
            have hx35 := bt_at t186 x8_2
            replace p35 := eq_true p35
            replace q35 := eq_true q35
            go_wp2
            go_roundg k2
            case measure => have := HJ5.out; have := HK2.out; omega
            case rel => exact ⟨(wrap64 (x8_2 + 1)), (by first | rfl | (simp; done) | (simp [*]; done)), H', ⟨by have := HJ5.out; have := HK2.out; omega⟩, ⟨by (with_reducible repeat (first | apply Kd.R_alloc | apply Kd.R_drewN | apply Kd.R_drew)); exact HO_4.out⟩, ⟨by repeat (first | (with_reducible first | exact HB.out | apply below_alloc | apply pw_below_drewN | apply below_drew1) | exact HB.out)⟩⟩
        ·rw [if_neg c30] at H
         exact absurd H (by simp)
       ·rw [if_neg c29] at H
        have c29b0 : decide (x8_2 < (t186.size : Int)) = false := decide_eq_false c29
        clear c29
        by_cases c37 : (t187.length : Int) = 1
        ·rw [if_pos c37] at H
         have c37b0 : ((t187.length : Int) == 1) = true := beq_iff_eq.mpr c37
         have c37b1 : ((t187.length : Int) != 1) = false := bne_eq_false_iff_eq.mpr c37
         clear c37
         by_cases c38 : 0 < (t187.length : Int)
         ·rw [if_pos c38] at H
          have c38b0 : decide (0 < (t187.length : Int)) = true := decide_eq_true c38
          have c38b1 : decide (0 < t187.length) = true := decide_eq_true (by omega)
          clear c38
          obtain rfl := Option.some.inj H
          obtain ⟨Ao39, co39, eo39⟩ := Kd.R_slice HO_4.out
          subst eo39
          have p197 : 0 ≤ (0 : Int) := (by omega)
          have q197 : 0 < (t187.length : Int) := of_decide_eq_true (by first | (with_reducible assumption) | assumption)
          obtain ⟨ad197, e197, hx197_0⟩ := Kd.at_string (Kd.R_reads' HO_4.out).2.2 0 p197 q197
          cases e197
          have qi197 : (0 < t187.length) = True := eq_true (by omega)
          (try rw [show ((0 : Int)).toNat = 0 from rfl] at hx197_0)
          (try rw [Addr.add_zero'] at hx197_0)
          replace p197 := eq_true p197
          replace q197 := eq_true q197
          go_wp2
          go_ret
          exact ⟨by first | rfl | (simp [errW_none, errW_some] <;> rfl) | (simp [*, errW_none, errW_some] <;> rfl), by repeat (first | (with_reducible first | exact HB.out | apply below_alloc | apply pw_below_drewN | apply below_drew1) | exact HB.out)⟩
         ·rw [if_neg c38] at H
          exact absurd H (by simp)
        ·rw [if_neg c37] at H
         have c37b0 : ((t187.length : Int) == 1) = false := beq_eq_false_iff_ne.mpr c37
         have c37b1 : ((t187.length : Int) != 1) = true := bne_iff_ne.mpr c37
         obtain rfl := Option.some.inj H
         obtain ⟨Ao40, co40, eo40⟩ := Kd.R_slice HO_4.out
         subst eo40
         go_wp2
         go_ret
         exact ⟨by first | rfl | (simp [errW_none, errW_some] <;> rfl) | (simp [*, errW_none, errW_some] <;> rfl), by repeat (first | (with_reducible first | exact HB.out | apply below_alloc | apply pw_below_drewN | apply below_drew1) | exact HB.out)⟩

/-- THE ONE PURE STATEMENT of laws_FnQuotedPlain: yours. -/
def laws_FnQuotedPlain.Pure : Prop := ∀ (l0 : List Int), l0.length ≤ maxLen → l0.length * 1 ≤ 140737488351232 → (∀ x ∈ l0, (Lit.int .u8 x).wf = true) → ∃ k, laws_FnQuotedPlain.f k l0 = some true
theorem laws_FnQuotedPlain.walk (P : laws_FnQuotedPlain.Pure) (a0 : Option Addr) (len0 cap0 : Nat) (z0 : List Int) (w : World) (w0 : (a0 = none ∧ len0 = 0 ∧ cap0 = 0 ∧ z0 = []) ∨ ∃ x, a0 = some x ∧ len0 ≤ cap0 ∧ cap0 ≤ maxLen ∧ z0.length = cap0 ∧ (∀ i, i < z0.length → w.cell? (x.add i) = some (.int .u8 (z0.getD i 0))) ∧ ∀ n ∈ z0, (Lit.int .u8 n).wf = true) (y0 : len0 * 1 ≤ 140737488351232) :
  Calls Try.prog 6 #[.slice a0 len0 cap0] w fun e w' => e = .returned (.bool true) ∧ Below w.heap.size w w' := by
 obtain ⟨l0, rfl, hr0, hm0, hw0, hc0⟩ := ReadsInt.ofRowC w0
 obtain ⟨k, h⟩ := P l0 hm0 y0 hw0
 refine (laws_FnQuotedPlain.calls k _ _ l0 true w (Kd.C_of_reads (d := (0 : Int)) (h1 := fun _ => rfl) hr0) hc0 h).mono ?_
 rintro e w' ⟨rfl, hd⟩
 exact ⟨rfl, hd⟩

end Go.Proofs.Ytenplenjpliciaa.PFnQuotedPlain
