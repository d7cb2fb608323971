-- Written by a program of this session (wip/tool/myprint.py) out of the translation.
import Derived.Test.YtaafnpellbhjhaaPFnDateOfx0
import Derived.Test.YtaafnpellbhjhaaPFnDateOfx1
import Derived.Test.YtaafnpellbhjhaaPFnDateOfx3
import Derived.Test.YtaafnpellbhjhaaPFnDateOfx4
import Derived.Test.YtaafnpellbhjhaaPFnDateOfx5
import Derived.Test.YtaafnpellbhjhaaPFnDateOfx6
namespace Go.Proofs.Ytaafnpellbhjhaa.PFnDateOf
open Go.RowKit Go.Proofs.YtaafnpellbhjhaaW.PrintWords Go.Proofs.YtaafnpellbhjhaaW.PrintLast Go.Proofs.YtaafnpellbhjhaaW.PrintMore
attribute [local go_sem] max2_int min2_int max_two min_two max_three min_three max_four min_four   -- for this text's walks alone
set_option linter.unusedVariables false
set_option linter.unusedSimpArgs false

attribute [local go_sem high] eqA28
/-! ### laws_FnDateOf: function 10 -/
def laws_FnDateOf.j0 : Nat → Int → Int → Bool → Bool → Bool → Int → Int → Int → Int → Int → Int → Int → Int → Int → Int → Int → Int → Int → Int → Option (Bool)
 | 0, _, _, _, _, _, _, _, _, _, _, _, _, _, _, _, _, _, _, _ => none
 | k + 1, x3, x4, x6, x8, x42, x169000, x169001, x169002, x169003, x169004, x169005, x169006, x178000, x178001, x178002, x178003, x178004, x178005, x178006 => if x42 = true then (if (x169000 == x178000 && (x169001 == x178001 && (x169002 == x178002 && (x169003 == x178003 && (x169004 == x178004 && (x169005 == x178005 && (x169006 == x178006))))))) = true then (some (x6 == x8)) else (some false)) else ((impl_SecondsOf.f k x169000 x169001 x169002 x169003 x169004 x169005 x169006).bind fun bt178 => ((impl_DateValid.f k x169000 x169001 x169002 x169003 x169004 x169005 x169006).bind fun t180 => (if t180 = true then (if bt178.2 = true then (if bt178.1 = x3 then (some (x169006 == x4)) else (some false)) else (some false)) else (some false))))
def laws_FnDateOf.f (k : Nat) (l0 : List Int) : Option (Bool) := if (l0.length : Int) > 1048576 then (some true) else ((spec_DrawDateOf.f k l0).bind fun bt158 => ((impl_DateOf.f k bt158.1 bt158.2).bind fun bt160 => ((spec_DateOf.f k bt158.1 bt158.2).bind fun bt169 => (if (!(bt160.1 == bt169.1) || (!(bt160.2.1 == bt169.2.1) || (!(bt160.2.2.1 == bt169.2.2.1) || (!(bt160.2.2.2.1 == bt169.2.2.2.1) || (!(bt160.2.2.2.2.1 == bt169.2.2.2.2.1) || (!(bt160.2.2.2.2.2.1 == bt169.2.2.2.2.2.1) || (!(bt160.2.2.2.2.2.2.1 == bt169.2.2.2.2.2.2.1)))))))) = true then (laws_FnDateOf.j0 k bt158.1 bt158.2 bt160.2.2.2.2.2.2.2 bt169.2.2.2.2.2.2.2 true bt160.1 bt160.2.1 bt160.2.2.1 bt160.2.2.2.1 bt160.2.2.2.2.1 bt160.2.2.2.2.2.1 bt160.2.2.2.2.2.2.1 bt169.1 bt169.2.1 bt169.2.2.1 bt169.2.2.2.1 bt169.2.2.2.2.1 bt169.2.2.2.2.2.1 bt169.2.2.2.2.2.2.1) else (if (bt160.2.2.2.2.2.2.2 != bt169.2.2.2.2.2.2.2) = true then (laws_FnDateOf.j0 k bt158.1 bt158.2 bt160.2.2.2.2.2.2.2 bt169.2.2.2.2.2.2.2 true bt160.1 bt160.2.1 bt160.2.2.1 bt160.2.2.2.1 bt160.2.2.2.2.1 bt160.2.2.2.2.2.1 bt160.2.2.2.2.2.2.1 bt169.1 bt169.2.1 bt169.2.2.1 bt169.2.2.2.1 bt169.2.2.2.2.1 bt169.2.2.2.2.2.1 bt169.2.2.2.2.2.2.1) else (laws_FnDateOf.j0 k bt158.1 bt158.2 bt160.2.2.2.2.2.2.2 bt169.2.2.2.2.2.2.2 (!bt160.2.2.2.2.2.2.2) bt160.1 bt160.2.1 bt160.2.2.1 bt160.2.2.2.1 bt160.2.2.2.2.1 bt160.2.2.2.2.2.1 bt160.2.2.2.2.2.2.1 bt169.1 bt169.2.1 bt169.2.2.1 bt169.2.2.2.1 bt169.2.2.2.2.1 bt169.2.2.2.2.2.1 bt169.2.2.2.2.2.2.1))))))
theorem laws_FnDateOf.mono_l : ∀ k, (∀ y0 y1 y2 y3 y4 y5 y6 y7 y8 y9 y10 y11 y12 y13 y14 y15 y16 y17 y18, LeO (laws_FnDateOf.j0 k y0 y1 y2 y3 y4 y5 y6 y7 y8 y9 y10 y11 y12 y13 y14 y15 y16 y17 y18) (laws_FnDateOf.j0 (k + 1) y0 y1 y2 y3 y4 y5 y6 y7 y8 y9 y10 y11 y12 y13 y14 y15 y16 y17 y18))
 | 0 => fun _ _ _ _ _ _ _ _ _ _ _ _ _ _ _ _ _ _ _ r h => by simp [laws_FnDateOf.j0] at h
 | k + 1 => by
  have ih0 := laws_FnDateOf.mono_l k
  ·intro y0 y1 y2 y3 y4 y5 y6 y7 y8 y9 y10 y11 y12 y13 y14 y15 y16 y17 y18
   unfold laws_FnDateOf.j0
   repeat' first
   | (with_reducible exact ih0 _ _ _ _ _ _ _ _ _ _ _ _ _ _ _ _ _ _ _)
   | (with_reducible exact impl_DateOf.mono _ _ _)
   | (with_reducible exact impl_DateValid.mono _ _ _ _ _ _ _ _)
   | (with_reducible exact impl_SecondsOf.mono _ _ _ _ _ _ _ _)
   | (with_reducible exact spec_DateOf.mono _ _ _)
   | (with_reducible exact spec_DrawDateOf.mono _ _)
   | (with_reducible exact LeO.refl _)
   | (with_reducible exact LeO.none _)
   | (with_reducible refine LeO.ite ?_ ?_)
   | (with_reducible refine LeO.bind ?_ (fun _ => ?_))
   | exact ih0 _ _ _ _ _ _ _ _ _ _ _ _ _ _ _ _ _ _ _
   | exact impl_DateOf.mono _ _ _
   | exact impl_DateValid.mono _ _ _ _ _ _ _ _
   | exact impl_SecondsOf.mono _ _ _ _ _ _ _ _
   | exact spec_DateOf.mono _ _ _
   | exact spec_DrawDateOf.mono _ _
   | exact LeO.none _
   | refine LeO.ite ?_ ?_
   | refine LeO.bind ?_ (fun _ => ?_)
theorem laws_FnDateOf.mono : ∀ a0 k, LeO (laws_FnDateOf.f k a0) (laws_FnDateOf.f (k + 1) a0) := by
 intro a0 k
 have ih0 := laws_FnDateOf.mono_l k
 unfold laws_FnDateOf.f
 repeat' first
   | (with_reducible exact ih0 _ _ _ _ _ _ _ _ _ _ _ _ _ _ _ _ _ _ _)
   | (with_reducible exact impl_DateOf.mono _ _ _)
   | (with_reducible exact impl_DateValid.mono _ _ _ _ _ _ _ _)
   | (with_reducible exact impl_SecondsOf.mono _ _ _ _ _ _ _ _)
   | (with_reducible exact spec_DateOf.mono _ _ _)
   | (with_reducible exact spec_DrawDateOf.mono _ _)
   | (with_reducible exact LeO.refl _)
   | (with_reducible exact LeO.none _)
   | (with_reducible refine LeO.ite ?_ ?_)
   | (with_reducible refine LeO.bind ?_ (fun _ => ?_))
   | exact ih0 _ _ _ _ _ _ _ _ _ _ _ _ _ _ _ _ _ _ _
   | exact impl_DateOf.mono _ _ _
   | exact impl_DateValid.mono _ _ _ _ _ _ _ _
   | exact impl_SecondsOf.mono _ _ _ _ _ _ _ _
   | exact spec_DateOf.mono _ _ _
   | exact spec_DrawDateOf.mono _ _
   | exact LeO.none _
   | refine LeO.ite ?_ ?_
   | refine LeO.bind ?_ (fun _ => ?_)
set_option maxHeartbeats 8000000 in
set_option maxRecDepth 100000 in
theorem laws_FnDateOf.calls (k : Nat) (A0 : Option Addr) (c0 : Nat) (l0 : List Int) (r : Bool) (w : World) (hr0 : Kd.C (Kd.int .u8) w A0 l0.length l0) (hc0 : l0.length ≤ c0) (h : laws_FnDateOf.f k l0 = some r) :
  Calls Try.prog 10 #[.slice A0 l0.length c0] w fun e w' => e = .returned (.bool r) ∧ Below w.heap.size w w' := by
 have hu28 := Try.underlying28
 have HR0 := Aside0.mk hr0
 have HC0 := Aside0.mk hc0
 clear hr0 hc0
 have HB := Aside0.mk (Below.refl w.heap.size w)
 have H : (if (l0.length : Int) > 1048576 then (some true) else ((spec_DrawDateOf.f k l0).bind fun bt158 => ((impl_DateOf.f k bt158.1 bt158.2).bind fun bt160 => ((spec_DateOf.f k bt158.1 bt158.2).bind fun bt169 => (if (!(bt160.1 == bt169.1) || (!(bt160.2.1 == bt169.2.1) || (!(bt160.2.2.1 == bt169.2.2.1) || (!(bt160.2.2.2.1 == bt169.2.2.2.1) || (!(bt160.2.2.2.2.1 == bt169.2.2.2.2.1) || (!(bt160.2.2.2.2.2.1 == bt169.2.2.2.2.2.1) || (!(bt160.2.2.2.2.2.2.1 == bt169.2.2.2.2.2.2.1)))))))) = true then (laws_FnDateOf.j0 k bt158.1 bt158.2 bt160.2.2.2.2.2.2.2 bt169.2.2.2.2.2.2.2 true bt160.1 bt160.2.1 bt160.2.2.1 bt160.2.2.2.1 bt160.2.2.2.2.1 bt160.2.2.2.2.2.1 bt160.2.2.2.2.2.2.1 bt169.1 bt169.2.1 bt169.2.2.1 bt169.2.2.2.1 bt169.2.2.2.2.1 bt169.2.2.2.2.2.1 bt169.2.2.2.2.2.2.1) else (if (bt160.2.2.2.2.2.2.2 != bt169.2.2.2.2.2.2.2) = true then (laws_FnDateOf.j0 k bt158.1 bt158.2 bt160.2.2.2.2.2.2.2 bt169.2.2.2.2.2.2.2 true bt160.1 bt160.2.1 bt160.2.2.1 bt160.2.2.2.1 bt160.2.2.2.2.1 bt160.2.2.2.2.2.1 bt160.2.2.2.2.2.2.1 bt169.1 bt169.2.1 bt169.2.2.1 bt169.2.2.2.1 bt169.2.2.2.2.1 bt169.2.2.2.2.2.1 bt169.2.2.2.2.2.2.1) else (laws_FnDateOf.j0 k bt158.1 bt158.2 bt160.2.2.2.2.2.2.2 bt169.2.2.2.2.2.2.2 (!bt160.2.2.2.2.2.2.2) bt160.1 bt160.2.1 bt160.2.2.1 bt160.2.2.2.1 bt160.2.2.2.2.1 bt160.2.2.2.2.2.1 bt160.2.2.2.2.2.2.1 bt169.1 bt169.2.1 bt169.2.2.1 bt169.2.2.2.1 bt169.2.2.2.2.1 bt169.2.2.2.2.2.1 bt169.2.2.2.2.2.2.1))))))) = some r := h
 clear h
 by_cases c2 : (l0.length : Int) > 1048576
 ·rw [if_pos c2] at H
  have c2b0 : decide (1048576 < (l0.length : Int)) = true := decide_eq_true c2
  have c2b1 : decide (1048576 < l0.length) = true := decide_eq_true (by omega)
  clear c2
  obtain rfl := Option.some.inj H
  go_enter Try.func10, Try.ntmps10
  go_wp2
  go_ret
  exact ⟨by first | rfl | (simp [errW_none, errW_some] <;> rfl) | (simp [*, errW_none, errW_some] <;> rfl), by repeat (first | (with_reducible first | exact HB.out | apply below_alloc | apply pw_below_drewN | apply below_drew1) | exact HB.out)⟩
 ·rw [if_neg c2] at H
  have c2b0 : decide (1048576 < (l0.length : Int)) = false := decide_eq_false c2
  have c2b1 : decide (1048576 < l0.length) = false := decide_eq_false (by omega)
  clear c2
  replace H := Option.bind_eq_some_iff.mp H
  obtain ⟨⟨t158, t159⟩, A30, H⟩ := H
  replace H : ((impl_DateOf.f k t158 t159).bind fun bt160 => ((spec_DateOf.f k t158 t159).bind fun bt169 => (if (!(bt160.1 == bt169.1) || (!(bt160.2.1 == bt169.2.1) || (!(bt160.2.2.1 == bt169.2.2.1) || (!(bt160.2.2.2.1 == bt169.2.2.2.1) || (!(bt160.2.2.2.2.1 == bt169.2.2.2.2.1) || (!(bt160.2.2.2.2.2.1 == bt169.2.2.2.2.2.1) || (!(bt160.2.2.2.2.2.2.1 == bt169.2.2.2.2.2.2.1)))))))) = true then (laws_FnDateOf.j0 k t158 t159 bt160.2.2.2.2.2.2.2 bt169.2.2.2.2.2.2.2 true bt160.1 bt160.2.1 bt160.2.2.1 bt160.2.2.2.1 bt160.2.2.2.2.1 bt160.2.2.2.2.2.1 bt160.2.2.2.2.2.2.1 bt169.1 bt169.2.1 bt169.2.2.1 bt169.2.2.2.1 bt169.2.2.2.2.1 bt169.2.2.2.2.2.1 bt169.2.2.2.2.2.2.1) else (if (bt160.2.2.2.2.2.2.2 != bt169.2.2.2.2.2.2.2) = true then (laws_FnDateOf.j0 k t158 t159 bt160.2.2.2.2.2.2.2 bt169.2.2.2.2.2.2.2 true bt160.1 bt160.2.1 bt160.2.2.1 bt160.2.2.2.1 bt160.2.2.2.2.1 bt160.2.2.2.2.2.1 bt160.2.2.2.2.2.2.1 bt169.1 bt169.2.1 bt169.2.2.1 bt169.2.2.2.1 bt169.2.2.2.2.1 bt169.2.2.2.2.2.1 bt169.2.2.2.2.2.2.1) else (laws_FnDateOf.j0 k t158 t159 bt160.2.2.2.2.2.2.2 bt169.2.2.2.2.2.2.2 (!bt160.2.2.2.2.2.2.2) bt160.1 bt160.2.1 bt160.2.2.1 bt160.2.2.2.1 bt160.2.2.2.2.1 bt160.2.2.2.2.2.1 bt160.2.2.2.2.2.2.1 bt169.1 bt169.2.1 bt169.2.2.1 bt169.2.2.2.1 bt169.2.2.2.2.1 bt169.2.2.2.2.2.1 bt169.2.2.2.2.2.2.1))))) = some r := H
  have A3 := Aside0.mk A30
  clear A30
  replace H := Option.bind_eq_some_iff.mp H
  obtain ⟨⟨t160, t161, t162, t163, t164, t165, t166, t167⟩, A40, H⟩ := H
  replace H : ((spec_DateOf.f k t158 t159).bind fun bt169 => (if (!(t160 == bt169.1) || (!(t161 == bt169.2.1) || (!(t162 == bt169.2.2.1) || (!(t163 == bt169.2.2.2.1) || (!(t164 == bt169.2.2.2.2.1) || (!(t165 == bt169.2.2.2.2.2.1) || (!(t166 == bt169.2.2.2.2.2.2.1)))))))) = true then (laws_FnDateOf.j0 k t158 t159 t167 bt169.2.2.2.2.2.2.2 true t160 t161 t162 t163 t164 t165 t166 bt169.1 bt169.2.1 bt169.2.2.1 bt169.2.2.2.1 bt169.2.2.2.2.1 bt169.2.2.2.2.2.1 bt169.2.2.2.2.2.2.1) else (if (t167 != bt169.2.2.2.2.2.2.2) = true then (laws_FnDateOf.j0 k t158 t159 t167 bt169.2.2.2.2.2.2.2 true t160 t161 t162 t163 t164 t165 t166 bt169.1 bt169.2.1 bt169.2.2.1 bt169.2.2.2.1 bt169.2.2.2.2.1 bt169.2.2.2.2.2.1 bt169.2.2.2.2.2.2.1) else (laws_FnDateOf.j0 k t158 t159 t167 bt169.2.2.2.2.2.2.2 (!t167) t160 t161 t162 t163 t164 t165 t166 bt169.1 bt169.2.1 bt169.2.2.1 bt169.2.2.2.1 bt169.2.2.2.2.1 bt169.2.2.2.2.2.1 bt169.2.2.2.2.2.2.1)))) = some r := H
  have A4 := Aside0.mk A40
  clear A40
  replace H := Option.bind_eq_some_iff.mp H
  obtain ⟨⟨t169, t170, t171, t172, t173, t174, t175, t176⟩, A50, H⟩ := H
  replace H : (if (!(t160 == t169) || (!(t161 == t170) || (!(t162 == t171) || (!(t163 == t172) || (!(t164 == t173) || (!(t165 == t174) || (!(t166 == t175)))))))) = true then (laws_FnDateOf.j0 k t158 t159 t167 t176 true t160 t161 t162 t163 t164 t165 t166 t169 t170 t171 t172 t173 t174 t175) else (if (t167 != t176) = true then (laws_FnDateOf.j0 k t158 t159 t167 t176 true t160 t161 t162 t163 t164 t165 t166 t169 t170 t171 t172 t173 t174 t175) else (laws_FnDateOf.j0 k t158 t159 t167 t176 (!t167) t160 t161 t162 t163 t164 t165 t166 t169 t170 t171 t172 t173 t174 t175))) = some r := H
  have A5 := Aside0.mk A50
  clear A50
  have HC6 := Aside0.mk H
  clear H
  go_enter Try.func10, Try.ntmps10
  go_upto_region 6 with (first | ((with_reducible refine gate_callee (f := 25) rfl ?_); refine goesL_ (some 16) rfl rfl Try.func25 (by kernel_rfl) rfl #[.slice A0 l0.length c0] rfl (by (try simp only [List.map_toArray, List.map_cons, List.map_nil]); first | done | rfl | (simp only [List.length_drop, List.length_take]; rfl)) ?_; (with_reducible refine (spec_DrawDateOf.calls k _ _ l0 t158 t159 _ ?side1 ?side2 A3.out).mono ?_); (case side1 => repeat (first | exact HR0.out | (with_reducible refine Kd.C_alloc ?_ _) | (with_reducible refine Kd.C_drewN ?_ _) | (with_reducible refine Kd.C_drew ?_))); (case side2 => exact HC0.out); rintro e w7 ⟨rfl, hb⟩; refine ⟨_, rfl, ?_⟩; have n0_ := Aside0.mk (below_step (by repeat (first | (with_reducible first | exact HB.out | apply below_alloc | apply pw_below_drewN | apply below_drew1) | exact HB.out)) hb); clear HB; have HB := n0_; clear n0_; (try clear hb); (try clear hb2); (try clear hk); (try clear hi)) | ((with_reducible refine gate_callee (f := 23) rfl ?_); refine goesL_ (some 22) rfl rfl Try.func23 (by kernel_rfl) rfl #[.int .i64 t158, .int .i64 t159] rfl (by (try simp only [List.map_toArray, List.map_cons, List.map_nil]); first | done | rfl | (simp only [List.length_drop, List.length_take]; rfl)) ?_; (with_reducible refine (impl_DateOf.calls k t158 t159 t160 t161 t162 t163 t164 t165 t166 t167 _ A4.out).mono ?_); rintro e w8 ⟨rfl, hb⟩; refine ⟨_, rfl, ?_⟩; have n0_ := Aside0.mk (below_step (by repeat (first | (with_reducible first | exact HB.out | apply below_alloc | apply pw_below_drewN | apply below_drew1) | exact HB.out)) hb); clear HB; have HB := n0_; clear n0_; (try clear hb); (try clear hb2); (try clear hk); (try clear hi)) | ((with_reducible refine gate_dst (N := 5) rfl ?_); refine box_event ?hg (N := 5) ?hd (cs := #[.int .i64 0, .int .i64 0, .int .i64 0, .int .i64 0, .int .i64 0, .int .i64 0, .int .i64 0]) (t := 28) ?hr ?_; (case hd => rfl); (case hg => rfl); (case hr => first | (go_simp; done) | (go_simp; rfl)); intro gb168 hg w9 hbox hb; have n0_ := Aside0.mk (below_step (by repeat (first | (with_reducible first | exact HB.out | apply below_alloc | apply pw_below_drewN | apply below_drew1) | exact HB.out)) hb); have n1_ := Aside0.mk (hbox); have n2_ := Aside0.mk ((by rw [hg]; exact (below_size (by repeat (first | (with_reducible first | exact HB.out | apply below_alloc | apply pw_below_drewN | apply below_drew1) | exact HB.out))) : w.heap.size ≤ gb168)); have n3_ := Aside0.mk ((by rw [hg]; exact (below_size (by repeat (first | (with_reducible first | exact HB.out | apply below_alloc | apply pw_below_drewN | apply below_drew1) | exact HB.out))) : w.heap.size ≤ gb168)); clear HB; have HB := n0_; have BK168 := n1_; have GW168 := n2_; have GE168 := n3_; clear n0_ n1_ n2_ n3_; clear hb hbox hg; have hcz10_0 : w9.cell? ⟨gb168, 0, none⟩ = some (.int .i64 0) := (blk_cell BK168.out 0).trans rfl; have hcz10_1 : w9.cell? ⟨gb168, 1, none⟩ = some (.int .i64 0) := (blk_cell BK168.out 1).trans rfl; have hcz10_2 : w9.cell? ⟨gb168, 2, none⟩ = some (.int .i64 0) := (blk_cell BK168.out 2).trans rfl; have hcz10_3 : w9.cell? ⟨gb168, 3, none⟩ = some (.int .i64 0) := (blk_cell BK168.out 3).trans rfl; have hcz10_4 : w9.cell? ⟨gb168, 4, none⟩ = some (.int .i64 0) := (blk_cell BK168.out 4).trans rfl; have hcz10_5 : w9.cell? ⟨gb168, 5, none⟩ = some (.int .i64 0) := (blk_cell BK168.out 5).trans rfl; have hcz10_6 : w9.cell? ⟨gb168, 6, none⟩ = some (.int .i64 0) := (blk_cell BK168.out 6).trans rfl; have hfz10_0 := blk_frozen BK168.out 0; have hfz10_1 := blk_frozen BK168.out 1; have hfz10_2 := blk_frozen BK168.out 2; have hfz10_3 := blk_frozen BK168.out 3; have hfz10_4 := blk_frozen BK168.out 4; have hfz10_5 := blk_frozen BK168.out 5; have hfz10_6 := blk_frozen BK168.out 6) | ((with_reducible refine gate_callee (f := 22) rfl ?_); refine goesL_ (some 28) rfl rfl Try.func22 (by kernel_rfl) rfl #[.int .i64 t158, .int .i64 t159] rfl (by (try simp only [List.map_toArray, List.map_cons, List.map_nil]); first | done | rfl | (simp only [List.length_drop, List.length_take]; rfl)) ?_; (with_reducible refine (spec_DateOf.calls k t158 t159 t169 t170 t171 t172 t173 t174 t175 t176 _ A5.out).mono ?_); rintro e w11 ⟨rfl, hb⟩; refine ⟨_, rfl, ?_⟩; have n0_ := Aside0.mk (blk_below (g := gb168) (o := .cells #[.int .i64 t160, .int .i64 t161, .int .i64 t162, .int .i64 t163, .int .i64 t164, .int .i64 t165, .int .i64 t166] 28 (0, 0)) (by (with_reducible repeat (first | refine blk_drewN ?_ _ | refine blk_drew ?_ | refine blk_alloc ?_ _)); refine blk_put (cs := #[.int .i64 t160, .int .i64 t161, .int .i64 t162, .int .i64 t163, .int .i64 t164, .int .i64 t165, .int .i64 0]) ?_ 6 _ rfl; (with_reducible repeat (first | refine blk_drewN ?_ _ | refine blk_drew ?_ | refine blk_alloc ?_ _)); refine blk_put (cs := #[.int .i64 t160, .int .i64 t161, .int .i64 t162, .int .i64 t163, .int .i64 t164, .int .i64 0, .int .i64 0]) ?_ 5 _ rfl; (with_reducible repeat (first | refine blk_drewN ?_ _ | refine blk_drew ?_ | refine blk_alloc ?_ _)); refine blk_put (cs := #[.int .i64 t160, .int .i64 t161, .int .i64 t162, .int .i64 t163, .int .i64 0, .int .i64 0, .int .i64 0]) ?_ 4 _ rfl; (with_reducible repeat (first | refine blk_drewN ?_ _ | refine blk_drew ?_ | refine blk_alloc ?_ _)); refine blk_put (cs := #[.int .i64 t160, .int .i64 t161, .int .i64 t162, .int .i64 0, .int .i64 0, .int .i64 0, .int .i64 0]) ?_ 3 _ rfl; (with_reducible repeat (first | refine blk_drewN ?_ _ | refine blk_drew ?_ | refine blk_alloc ?_ _)); refine blk_put (cs := #[.int .i64 t160, .int .i64 t161, .int .i64 0, .int .i64 0, .int .i64 0, .int .i64 0, .int .i64 0]) ?_ 2 _ rfl; (with_reducible repeat (first | refine blk_drewN ?_ _ | refine blk_drew ?_ | refine blk_alloc ?_ _)); refine blk_put (cs := #[.int .i64 t160, .int .i64 0, .int .i64 0, .int .i64 0, .int .i64 0, .int .i64 0, .int .i64 0]) ?_ 1 _ rfl; (with_reducible repeat (first | refine blk_drewN ?_ _ | refine blk_drew ?_ | refine blk_alloc ?_ _)); refine blk_put (cs := #[.int .i64 0, .int .i64 0, .int .i64 0, .int .i64 0, .int .i64 0, .int .i64 0, .int .i64 0]) ?_ 0 _ rfl; (with_reducible repeat (first | refine blk_drewN ?_ _ | refine blk_drew ?_ | refine blk_alloc ?_ _)); exact BK168.out) hb); have n1_ := Aside0.mk (below_step (by repeat (first | (with_reducible first | exact HB.out | apply below_alloc | apply pw_below_drewN | apply below_drew1 | refine below_set ?_ GE168.out) | exact HB.out)) hb); clear BK168; clear HB; have BK168 := n0_; have HB := n1_; clear n0_ n1_; (try clear hb); (try clear hb2); (try clear hk); (try clear hi)) | ((with_reducible refine gate_dst (N := 7) rfl ?_); refine box_event ?hg (N := 7) ?hd (cs := #[.int .i64 0, .int .i64 0, .int .i64 0, .int .i64 0, .int .i64 0, .int .i64 0, .int .i64 0]) (t := 28) ?hr ?_; (case hd => rfl); (case hg => rfl); (case hr => first | (go_simp; done) | (go_simp; rfl)); intro gb177 hg w12 hbox hb; have n0_ := Aside0.mk (blk_below (g := gb168) (o := .cells #[.int .i64 t160, .int .i64 t161, .int .i64 t162, .int .i64 t163, .int .i64 t164, .int .i64 t165, .int .i64 t166] 28 (0, 0)) (by (with_reducible repeat (first | refine blk_drewN ?_ _ | refine blk_drew ?_ | refine blk_alloc ?_ _)); exact BK168.out) hb); have n1_ := Aside0.mk (below_step (by repeat (first | (with_reducible first | exact HB.out | apply below_alloc | apply pw_below_drewN | apply below_drew1 | refine below_set ?_ GE168.out) | exact HB.out)) hb); have n2_ := Aside0.mk (hbox); have n3_ := Aside0.mk ((by rw [hg]; exact (below_size (by repeat (first | (with_reducible first | exact HB.out | apply below_alloc | apply pw_below_drewN | apply below_drew1 | refine below_set ?_ GE168.out) | exact HB.out))) : w.heap.size ≤ gb177)); have n4_ := Aside0.mk ((by rw [hg]; exact (below_size (by repeat (first | (with_reducible first | exact HB.out | apply below_alloc | apply pw_below_drewN | apply below_drew1 | refine below_set ?_ GE168.out) | exact HB.out))) : w.heap.size ≤ gb177)); have n5_ := Aside0.mk ((by rw [hg]; exact Nat.ne_of_lt (blk_lt (g := gb168) (o := .cells #[.int .i64 t160, .int .i64 t161, .int .i64 t162, .int .i64 t163, .int .i64 t164, .int .i64 t165, .int .i64 t166] 28 (0, 0)) (by (with_reducible repeat (first | refine blk_drewN ?_ _ | refine blk_drew ?_ | refine blk_alloc ?_ _)); exact BK168.out)) : gb168 ≠ gb177)); have n6_ := Aside0.mk ((by rw [hg]; exact Nat.ne_of_gt (blk_lt (g := gb168) (o := .cells #[.int .i64 t160, .int .i64 t161, .int .i64 t162, .int .i64 t163, .int .i64 t164, .int .i64 t165, .int .i64 t166] 28 (0, 0)) (by (with_reducible repeat (first | refine blk_drewN ?_ _ | refine blk_drew ?_ | refine blk_alloc ?_ _)); exact BK168.out)) : gb177 ≠ gb168)); clear BK168; clear HB; have BK168 := n0_; have HB := n1_; have BK177 := n2_; have GW177 := n3_; have GE177 := n4_; have NB168_177 := n5_; have NB177_168 := n6_; clear n0_ n1_ n2_ n3_ n4_ n5_ n6_; clear hb hbox hg; have hnb13 := NB177_168.out; have hnc13 := NB168_177.out; have hcz14_0 : w12.cell? ⟨gb177, 0, none⟩ = some (.int .i64 0) := (blk_cell BK177.out 0).trans rfl; have hcz14_1 : w12.cell? ⟨gb177, 1, none⟩ = some (.int .i64 0) := (blk_cell BK177.out 1).trans rfl; have hcz14_2 : w12.cell? ⟨gb177, 2, none⟩ = some (.int .i64 0) := (blk_cell BK177.out 2).trans rfl; have hcz14_3 : w12.cell? ⟨gb177, 3, none⟩ = some (.int .i64 0) := (blk_cell BK177.out 3).trans rfl; have hcz14_4 : w12.cell? ⟨gb177, 4, none⟩ = some (.int .i64 0) := (blk_cell BK177.out 4).trans rfl; have hcz14_5 : w12.cell? ⟨gb177, 5, none⟩ = some (.int .i64 0) := (blk_cell BK177.out 5).trans rfl; have hcz14_6 : w12.cell? ⟨gb177, 6, none⟩ = some (.int .i64 0) := (blk_cell BK177.out 6).trans rfl; have hfz14_0 := blk_frozen BK177.out 0; have hfz14_1 := blk_frozen BK177.out 1; have hfz14_2 := blk_frozen BK177.out 2; have hfz14_3 := blk_frozen BK177.out 3; have hfz14_4 := blk_frozen BK177.out 4; have hfz14_5 := blk_frozen BK177.out 5; have hfz14_6 := blk_frozen BK177.out 6))
  (try simp only [Act.put, List.setIfInBounds_toArray, List.set_cons_zero, List.set_cons_succ])
  go_cut [42] (fun v42 wc => ∃ (kq : Nat) (x42_5 : Bool), v42 = .bool x42_5 ∧ Aside0 (laws_FnDateOf.j0 kq t158 t159 t167 t176 x42_5 t160 t161 t162 t163 t164 t165 t166 t169 t170 t171 t172 t173 t174 t175 = some r) ∧ Aside0 (kq ≤ k) ∧ Aside0 (wc.heap[gb168]? = some (.cells #[.int .i64 t160, .int .i64 t161, .int .i64 t162, .int .i64 t163, .int .i64 t164, .int .i64 t165, .int .i64 t166] 28 (0, 0))) ∧ Aside0 (wc.heap[gb177]? = some (.cells #[.int .i64 t169, .int .i64 t170, .int .i64 t171, .int .i64 t172, .int .i64 t173, .int .i64 t174, .int .i64 t175] 28 (0, 0))) ∧ Aside0 (Below w.heap.size w wc))
  case first =>
   have H := HC6.out
   clear HC6
   by_cases c15 : (!(t160 == t169) || (!(t161 == t170) || (!(t162 == t171) || (!(t163 == t172) || (!(t164 == t173) || (!(t165 == t174) || (!(t166 == t175)))))))) = true
   ·rw [if_pos c15] at H
    have c15b0 : (!(t160 == t169) || (!(t161 == t170) || (!(t162 == t171) || (!(t163 == t172) || (!(t164 == t173) || (!(t165 == t174) || (!(t166 == t175)))))))) = true := c15
    clear c15
    (first | rw [c15b0] | (simp only [i64_w, i32_w]; rw [c15b0]) | skip)
    have H' := Aside0.mk H
    clear H
    have hnb16 := NB168_177.out
    have hnc16 := NB177_168.out
    have hcz17_0 : w12.cell? ⟨gb168, 0, none⟩ = some (.int .i64 t160) := (blk_cell BK168.out 0).trans rfl
    have hcz17_1 : w12.cell? ⟨gb168, 1, none⟩ = some (.int .i64 t161) := (blk_cell BK168.out 1).trans rfl
    have hcz17_2 : w12.cell? ⟨gb168, 2, none⟩ = some (.int .i64 t162) := (blk_cell BK168.out 2).trans rfl
    have hcz17_3 : w12.cell? ⟨gb168, 3, none⟩ = some (.int .i64 t163) := (blk_cell BK168.out 3).trans rfl
    have hcz17_4 : w12.cell? ⟨gb168, 4, none⟩ = some (.int .i64 t164) := (blk_cell BK168.out 4).trans rfl
    have hcz17_5 : w12.cell? ⟨gb168, 5, none⟩ = some (.int .i64 t165) := (blk_cell BK168.out 5).trans rfl
    have hcz17_6 : w12.cell? ⟨gb168, 6, none⟩ = some (.int .i64 t166) := (blk_cell BK168.out 6).trans rfl
    have hfz17_0 := blk_frozen BK168.out 0
    have hfz17_1 := blk_frozen BK168.out 1
    have hfz17_2 := blk_frozen BK168.out 2
    have hfz17_3 := blk_frozen BK168.out 3
    have hfz17_4 := blk_frozen BK168.out 4
    have hfz17_5 := blk_frozen BK168.out 5
    have hfz17_6 := blk_frozen BK168.out 6
    have hcz18_0 : w12.cell? ⟨gb177, 0, none⟩ = some (.int .i64 0) := (blk_cell BK177.out 0).trans rfl
    have hcz18_1 : w12.cell? ⟨gb177, 1, none⟩ = some (.int .i64 0) := (blk_cell BK177.out 1).trans rfl
    have hcz18_2 : w12.cell? ⟨gb177, 2, none⟩ = some (.int .i64 0) := (blk_cell BK177.out 2).trans rfl
    have hcz18_3 : w12.cell? ⟨gb177, 3, none⟩ = some (.int .i64 0) := (blk_cell BK177.out 3).trans rfl
    have hcz18_4 : w12.cell? ⟨gb177, 4, none⟩ = some (.int .i64 0) := (blk_cell BK177.out 4).trans rfl
    have hcz18_5 : w12.cell? ⟨gb177, 5, none⟩ = some (.int .i64 0) := (blk_cell BK177.out 5).trans rfl
    have hcz18_6 : w12.cell? ⟨gb177, 6, none⟩ = some (.int .i64 0) := (blk_cell BK177.out 6).trans rfl
    have hfz18_0 := blk_frozen BK177.out 0
    have hfz18_1 := blk_frozen BK177.out 1
    have hfz18_2 := blk_frozen BK177.out 2
    have hfz18_3 := blk_frozen BK177.out 3
    have hfz18_4 := blk_frozen BK177.out 4
    have hfz18_5 := blk_frozen BK177.out 5
    have hfz18_6 := blk_frozen BK177.out 6
    go_wp2
    go_meet
    case rel => exact ⟨_, (true), (by first | rfl | (simp; done) | (simp [*]; done)), H', ⟨by first | omega | exact Nat.le_refl _⟩, ⟨by (with_reducible repeat (first | refine blk_drewN ?_ _ | refine blk_drew ?_ | refine blk_alloc ?_ _)); refine blk_far ?_ NB168_177.out _; (with_reducible repeat (first | refine blk_drewN ?_ _ | refine blk_drew ?_ | refine blk_alloc ?_ _)); refine blk_far ?_ NB168_177.out _; (with_reducible repeat (first | refine blk_drewN ?_ _ | refine blk_drew ?_ | refine blk_alloc ?_ _)); refine blk_far ?_ NB168_177.out _; (with_reducible repeat (first | refine blk_drewN ?_ _ | refine blk_drew ?_ | refine blk_alloc ?_ _)); refine blk_far ?_ NB168_177.out _; (with_reducible repeat (first | refine blk_drewN ?_ _ | refine blk_drew ?_ | refine blk_alloc ?_ _)); refine blk_far ?_ NB168_177.out _; (with_reducible repeat (first | refine blk_drewN ?_ _ | refine blk_drew ?_ | refine blk_alloc ?_ _)); refine blk_far ?_ NB168_177.out _; (with_reducible repeat (first | refine blk_drewN ?_ _ | refine blk_drew ?_ | refine blk_alloc ?_ _)); refine blk_far ?_ NB168_177.out _; (with_reducible repeat (first | refine blk_drewN ?_ _ | refine blk_drew ?_ | refine blk_alloc ?_ _)); exact BK168.out⟩, ⟨by (with_reducible repeat (first | refine blk_drewN ?_ _ | refine blk_drew ?_ | refine blk_alloc ?_ _)); refine blk_put (cs := #[.int .i64 t169, .int .i64 t170, .int .i64 t171, .int .i64 t172, .int .i64 t173, .int .i64 t174, .int .i64 0]) ?_ 6 _ rfl; (with_reducible repeat (first | refine blk_drewN ?_ _ | refine blk_drew ?_ | refine blk_alloc ?_ _)); refine blk_put (cs := #[.int .i64 t169, .int .i64 t170, .int .i64 t171, .int .i64 t172, .int .i64 t173, .int .i64 0, .int .i64 0]) ?_ 5 _ rfl; (with_reducible repeat (first | refine blk_drewN ?_ _ | refine blk_drew ?_ | refine blk_alloc ?_ _)); refine blk_put (cs := #[.int .i64 t169, .int .i64 t170, .int .i64 t171, .int .i64 t172, .int .i64 0, .int .i64 0, .int .i64 0]) ?_ 4 _ rfl; (with_reducible repeat (first | refine blk_drewN ?_ _ | refine blk_drew ?_ | refine blk_alloc ?_ _)); refine blk_put (cs := #[.int .i64 t169, .int .i64 t170, .int .i64 t171, .int .i64 0, .int .i64 0, .int .i64 0, .int .i64 0]) ?_ 3 _ rfl; (with_reducible repeat (first | refine blk_drewN ?_ _ | refine blk_drew ?_ | refine blk_alloc ?_ _)); refine blk_put (cs := #[.int .i64 t169, .int .i64 t170, .int .i64 0, .int .i64 0, .int .i64 0, .int .i64 0, .int .i64 0]) ?_ 2 _ rfl; (with_reducible repeat (first | refine blk_drewN ?_ _ | refine blk_drew ?_ | refine blk_alloc ?_ _)); refine blk_put (cs := #[.int .i64 t169, .int .i64 0, .int .i64 0, .int .i64 0, .int .i64 0, .int .i64 0, .int .i64 0]) ?_ 1 _ rfl; (with_reducible repeat (first | refine blk_drewN ?_ _ | refine blk_drew ?_ | refine blk_alloc ?_ _)); refine blk_put (cs := #[.int .i64 0, .int .i64 0, .int .i64 0, .int .i64 0, .int .i64 0, .int .i64 0, .int .i64 0]) ?_ 0 _ rfl; (with_reducible repeat (first | refine blk_drewN ?_ _ | refine blk_drew ?_ | refine blk_alloc ?_ _)); exact BK177.out⟩, ⟨by repeat (first | (with_reducible first | exact HB.out | apply below_alloc | apply pw_below_drewN | apply below_drew1 | refine below_set ?_ GE168.out | refine below_set ?_ GE177.out) | exact HB.out)⟩⟩
   ·rw [if_neg c15] at H
    have c15b0 : (!(t160 == t169) || (!(t161 == t170) || (!(t162 == t171) || (!(t163 == t172) || (!(t164 == t173) || (!(t165 == t174) || (!(t166 == t175)))))))) = false := by simpa using c15
    clear c15
    (first | rw [c15b0] | (simp only [i64_w, i32_w]; rw [c15b0]) | skip)
    by_cases c19 : (t167 != t176) = true
    ·rw [if_pos c19] at H
     have c19b0 : (t167 != t176) = true := c19
     (try (have c19b1 : decide (t167 = t176) = false := by simpa using c19))
     (try (have c19b2 : (t167 == t176) = false := by simpa using c19))
     (try (have c19b3 : ¬ (t167 = t176) := by simpa using c19))
     clear c19
     have H' := Aside0.mk H
     clear H
     have hnb20 := NB168_177.out
     have hnc20 := NB177_168.out
     have hcz21_0 : w12.cell? ⟨gb168, 0, none⟩ = some (.int .i64 t160) := (blk_cell BK168.out 0).trans rfl
     have hcz21_1 : w12.cell? ⟨gb168, 1, none⟩ = some (.int .i64 t161) := (blk_cell BK168.out 1).trans rfl
     have hcz21_2 : w12.cell? ⟨gb168, 2, none⟩ = some (.int .i64 t162) := (blk_cell BK168.out 2).trans rfl
     have hcz21_3 : w12.cell? ⟨gb168, 3, none⟩ = some (.int .i64 t163) := (blk_cell BK168.out 3).trans rfl
     have hcz21_4 : w12.cell? ⟨gb168, 4, none⟩ = some (.int .i64 t164) := (blk_cell BK168.out 4).trans rfl
     have hcz21_5 : w12.cell? ⟨gb168, 5, none⟩ = some (.int .i64 t165) := (blk_cell BK168.out 5).trans rfl
     have hcz21_6 : w12.cell? ⟨gb168, 6, none⟩ = some (.int .i64 t166) := (blk_cell BK168.out 6).trans rfl
     have hfz21_0 := blk_frozen BK168.out 0
     have hfz21_1 := blk_frozen BK168.out 1
     have hfz21_2 := blk_frozen BK168.out 2
     have hfz21_3 := blk_frozen BK168.out 3
     have hfz21_4 := blk_frozen BK168.out 4
     have hfz21_5 := blk_frozen BK168.out 5
     have hfz21_6 := blk_frozen BK168.out 6
     have hcz22_0 : w12.cell? ⟨gb177, 0, none⟩ = some (.int .i64 0) := (blk_cell BK177.out 0).trans rfl
     have hcz22_1 : w12.cell? ⟨gb177, 1, none⟩ = some (.int .i64 0) := (blk_cell BK177.out 1).trans rfl
     have hcz22_2 : w12.cell? ⟨gb177, 2, none⟩ = some (.int .i64 0) := (blk_cell BK177.out 2).trans rfl
     have hcz22_3 : w12.cell? ⟨gb177, 3, none⟩ = some (.int .i64 0) := (blk_cell BK177.out 3).trans rfl
     have hcz22_4 : w12.cell? ⟨gb177, 4, none⟩ = some (.int .i64 0) := (blk_cell BK177.out 4).trans rfl
     have hcz22_5 : w12.cell? ⟨gb177, 5, none⟩ = some (.int .i64 0) := (blk_cell BK177.out 5).trans rfl
     have hcz22_6 : w12.cell? ⟨gb177, 6, none⟩ = some (.int .i64 0) := (blk_cell BK177.out 6).trans rfl
     have hfz22_0 := blk_frozen BK177.out 0
     have hfz22_1 := blk_frozen BK177.out 1
     have hfz22_2 := blk_frozen BK177.out 2
     have hfz22_3 := blk_frozen BK177.out 3
     have hfz22_4 := blk_frozen BK177.out 4
     have hfz22_5 := blk_frozen BK177.out 5
     have hfz22_6 := blk_frozen BK177.out 6
     go_wp2
     go_meet
     case rel => exact ⟨_, (true), (by first | rfl | (simp; done) | (simp [*]; done)), H', ⟨by first | omega | exact Nat.le_refl _⟩, ⟨by (with_reducible repeat (first | refine blk_drewN ?_ _ | refine blk_drew ?_ | refine blk_alloc ?_ _)); refine blk_far ?_ NB168_177.out _; (with_reducible repeat (first | refine blk_drewN ?_ _ | refine blk_drew ?_ | refine blk_alloc ?_ _)); refine blk_far ?_ NB168_177.out _; (with_reducible repeat (first | refine blk_drewN ?_ _ | refine blk_drew ?_ | refine blk_alloc ?_ _)); refine blk_far ?_ NB168_177.out _; (with_reducible repeat (first | refine blk_drewN ?_ _ | refine blk_drew ?_ | refine blk_alloc ?_ _)); refine blk_far ?_ NB168_177.out _; (with_reducible repeat (first | refine blk_drewN ?_ _ | refine blk_drew ?_ | refine blk_alloc ?_ _)); refine blk_far ?_ NB168_177.out _; (with_reducible repeat (first | refine blk_drewN ?_ _ | refine blk_drew ?_ | refine blk_alloc ?_ _)); refine blk_far ?_ NB168_177.out _; (with_reducible repeat (first | refine blk_drewN ?_ _ | refine blk_drew ?_ | refine blk_alloc ?_ _)); refine blk_far ?_ NB168_177.out _; (with_reducible repeat (first | refine blk_drewN ?_ _ | refine blk_drew ?_ | refine blk_alloc ?_ _)); exact BK168.out⟩, ⟨by (with_reducible repeat (first | refine blk_drewN ?_ _ | refine blk_drew ?_ | refine blk_alloc ?_ _)); refine blk_put (cs := #[.int .i64 t169, .int .i64 t170, .int .i64 t171, .int .i64 t172, .int .i64 t173, .int .i64 t174, .int .i64 0]) ?_ 6 _ rfl; (with_reducible repeat (first | refine blk_drewN ?_ _ | refine blk_drew ?_ | refine blk_alloc ?_ _)); refine blk_put (cs := #[.int .i64 t169, .int .i64 t170, .int .i64 t171, .int .i64 t172, .int .i64 t173, .int .i64 0, .int .i64 0]) ?_ 5 _ rfl; (with_reducible repeat (first | refine blk_drewN ?_ _ | refine blk_drew ?_ | refine blk_alloc ?_ _)); refine blk_put (cs := #[.int .i64 t169, .int .i64 t170, .int .i64 t171, .int .i64 t172, .int .i64 0, .int .i64 0, .int .i64 0]) ?_ 4 _ rfl; (with_reducible repeat (first | refine blk_drewN ?_ _ | refine blk_drew ?_ | refine blk_alloc ?_ _)); refine blk_put (cs := #[.int .i64 t169, .int .i64 t170, .int .i64 t171, .int .i64 0, .int .i64 0, .int .i64 0, .int .i64 0]) ?_ 3 _ rfl; (with_reducible repeat (first | refine blk_drewN ?_ _ | refine blk_drew ?_ | refine blk_alloc ?_ _)); refine blk_put (cs := #[.int .i64 t169, .int .i64 t170, .int .i64 0, .int .i64 0, .int .i64 0, .int .i64 0, .int .i64 0]) ?_ 2 _ rfl; (with_reducible repeat (first | refine blk_drewN ?_ _ | refine blk_drew ?_ | refine blk_alloc ?_ _)); refine blk_put (cs := #[.int .i64 t169, .int .i64 0, .int .i64 0, .int .i64 0, .int .i64 0, .int .i64 0, .int .i64 0]) ?_ 1 _ rfl; (with_reducible repeat (first | refine blk_drewN ?_ _ | refine blk_drew ?_ | refine blk_alloc ?_ _)); refine blk_put (cs := #[.int .i64 0, .int .i64 0, .int .i64 0, .int .i64 0, .int .i64 0, .int .i64 0, .int .i64 0]) ?_ 0 _ rfl; (with_reducible repeat (first | refine blk_drewN ?_ _ | refine blk_drew ?_ | refine blk_alloc ?_ _)); exact BK177.out⟩, ⟨by repeat (first | (with_reducible first | exact HB.out | apply below_alloc | apply pw_below_drewN | apply below_drew1 | refine below_set ?_ GE168.out | refine below_set ?_ GE177.out) | exact HB.out)⟩⟩
    ·rw [if_neg c19] at H
     have c19b0 : (t167 != t176) = false := by simpa using c19
     (try (have c19b1 : decide (t167 = t176) = true := by simpa using c19))
     (try (have c19b2 : (t167 == t176) = true := by simpa using c19))
     clear c19
     have H' := Aside0.mk H
     clear H
     have hnb23 := NB168_177.out
     have hnc23 := NB177_168.out
     have hcz24_0 : w12.cell? ⟨gb168, 0, none⟩ = some (.int .i64 t160) := (blk_cell BK168.out 0).trans rfl
     have hcz24_1 : w12.cell? ⟨gb168, 1, none⟩ = some (.int .i64 t161) := (blk_cell BK168.out 1).trans rfl
     have hcz24_2 : w12.cell? ⟨gb168, 2, none⟩ = some (.int .i64 t162) := (blk_cell BK168.out 2).trans rfl
     have hcz24_3 : w12.cell? ⟨gb168, 3, none⟩ = some (.int .i64 t163) := (blk_cell BK168.out 3).trans rfl
     have hcz24_4 : w12.cell? ⟨gb168, 4, none⟩ = some (.int .i64 t164) := (blk_cell BK168.out 4).trans rfl
     have hcz24_5 : w12.cell? ⟨gb168, 5, none⟩ = some (.int .i64 t165) := (blk_cell BK168.out 5).trans rfl
     have hcz24_6 : w12.cell? ⟨gb168, 6, none⟩ = some (.int .i64 t166) := (blk_cell BK168.out 6).trans rfl
     have hfz24_0 := blk_frozen BK168.out 0
     have hfz24_1 := blk_frozen BK168.out 1
     have hfz24_2 := blk_frozen BK168.out 2
     have hfz24_3 := blk_frozen BK168.out 3
     have hfz24_4 := blk_frozen BK168.out 4
     have hfz24_5 := blk_frozen BK168.out 5
     have hfz24_6 := blk_frozen BK168.out 6
     have hcz25_0 : w12.cell? ⟨gb177, 0, none⟩ = some (.int .i64 0) := (blk_cell BK177.out 0).trans rfl
     have hcz25_1 : w12.cell? ⟨gb177, 1, none⟩ = some (.int .i64 0) := (blk_cell BK177.out 1).trans rfl
     have hcz25_2 : w12.cell? ⟨gb177, 2, none⟩ = some (.int .i64 0) := (blk_cell BK177.out 2).trans rfl
     have hcz25_3 : w12.cell? ⟨gb177, 3, none⟩ = some (.int .i64 0) := (blk_cell BK177.out 3).trans rfl
     have hcz25_4 : w12.cell? ⟨gb177, 4, none⟩ = some (.int .i64 0) := (blk_cell BK177.out 4).trans rfl
     have hcz25_5 : w12.cell? ⟨gb177, 5, none⟩ = some (.int .i64 0) := (blk_cell BK177.out 5).trans rfl
     have hcz25_6 : w12.cell? ⟨gb177, 6, none⟩ = some (.int .i64 0) := (blk_cell BK177.out 6).trans rfl
     have hfz25_0 := blk_frozen BK177.out 0
     have hfz25_1 := blk_frozen BK177.out 1
     have hfz25_2 := blk_frozen BK177.out 2
     have hfz25_3 := blk_frozen BK177.out 3
     have hfz25_4 := blk_frozen BK177.out 4
     have hfz25_5 := blk_frozen BK177.out 5
     have hfz25_6 := blk_frozen BK177.out 6
     go_wp2
     go_meet
     case rel => exact ⟨_, (!t167), (by first | rfl | (simp; done) | (simp [*]; done)), H', ⟨by first | omega | exact Nat.le_refl _⟩, ⟨by (with_reducible repeat (first | refine blk_drewN ?_ _ | refine blk_drew ?_ | refine blk_alloc ?_ _)); refine blk_far ?_ NB168_177.out _; (with_reducible repeat (first | refine blk_drewN ?_ _ | refine blk_drew ?_ | refine blk_alloc ?_ _)); refine blk_far ?_ NB168_177.out _; (with_reducible repeat (first | refine blk_drewN ?_ _ | refine blk_drew ?_ | refine blk_alloc ?_ _)); refine blk_far ?_ NB168_177.out _; (with_reducible repeat (first | refine blk_drewN ?_ _ | refine blk_drew ?_ | refine blk_alloc ?_ _)); refine blk_far ?_ NB168_177.out _; (with_reducible repeat (first | refine blk_drewN ?_ _ | refine blk_drew ?_ | refine blk_alloc ?_ _)); refine blk_far ?_ NB168_177.out _; (with_reducible repeat (first | refine blk_drewN ?_ _ | refine blk_drew ?_ | refine blk_alloc ?_ _)); refine blk_far ?_ NB168_177.out _; (with_reducible repeat (first | refine blk_drewN ?_ _ | refine blk_drew ?_ | refine blk_alloc ?_ _)); refine blk_far ?_ NB168_177.out _; (with_reducible repeat (first | refine blk_drewN ?_ _ | refine blk_drew ?_ | refine blk_alloc ?_ _)); exact BK168.out⟩, ⟨by (with_reducible repeat (first | refine blk_drewN ?_ _ | refine blk_drew ?_ | refine blk_alloc ?_ _)); refine blk_put (cs := #[.int .i64 t169, .int .i64 t170, .int .i64 t171, .int .i64 t172, .int .i64 t173, .int .i64 t174, .int .i64 0]) ?_ 6 _ rfl; (with_reducible repeat (first | refine blk_drewN ?_ _ | refine blk_drew ?_ | refine blk_alloc ?_ _)); refine blk_put (cs := #[.int .i64 t169, .int .i64 t170, .int .i64 t171, .int .i64 t172, .int .i64 t173, .int .i64 0, .int .i64 0]) ?_ 5 _ rfl; (with_reducible repeat (first | refine blk_drewN ?_ _ | refine blk_drew ?_ | refine blk_alloc ?_ _)); refine blk_put (cs := #[.int .i64 t169, .int .i64 t170, .int .i64 t171, .int .i64 t172, .int .i64 0, .int .i64 0, .int .i64 0]) ?_ 4 _ rfl; (with_reducible repeat (first | refine blk_drewN ?_ _ | refine blk_drew ?_ | refine blk_alloc ?_ _)); refine blk_put (cs := #[.int .i64 t169, .int .i64 t170, .int .i64 t171, .int .i64 0, .int .i64 0, .int .i64 0, .int .i64 0]) ?_ 3 _ rfl; (with_reducible repeat (first | refine blk_drewN ?_ _ | refine blk_drew ?_ | refine blk_alloc ?_ _)); refine blk_put (cs := #[.int .i64 t169, .int .i64 t170, .int .i64 0, .int .i64 0, .int .i64 0, .int .i64 0, .int .i64 0]) ?_ 2 _ rfl; (with_reducible repeat (first | refine blk_drewN ?_ _ | refine blk_drew ?_ | refine blk_alloc ?_ _)); refine blk_put (cs := #[.int .i64 t169, .int .i64 0, .int .i64 0, .int .i64 0, .int .i64 0, .int .i64 0, .int .i64 0]) ?_ 1 _ rfl; (with_reducible repeat (first | refine blk_drewN ?_ _ | refine blk_drew ?_ | refine blk_alloc ?_ _)); refine blk_put (cs := #[.int .i64 0, .int .i64 0, .int .i64 0, .int .i64 0, .int .i64 0, .int .i64 0, .int .i64 0]) ?_ 0 _ rfl; (with_reducible repeat (first | refine blk_drewN ?_ _ | refine blk_drew ?_ | refine blk_alloc ?_ _)); exact BK177.out⟩, ⟨by repeat (first | (with_reducible first | exact HB.out | apply below_alloc | apply pw_below_drewN | apply below_drew1 | refine below_set ?_ GE168.out | refine below_set ?_ GE177.out) | exact HB.out)⟩⟩
  case rest =>
   clear HC6
   try clear c1
   try clear c2
   try clear c2b0
   try clear c2b1
   try clear p2
   try clear c10
   try clear c13
   try clear c15
   try clear c15b0
   try clear c16
   try clear c19
   try clear c19b0
   try clear c19b1
   try clear c19b2
   try clear c20
   try clear c22
   try clear c23
   try clear c25
   try clear hcz10_0
   try clear hcz10_1
   try clear hcz10_2
   try clear hcz10_3
   try clear hcz10_4
   try clear hcz10_5
   try clear hcz10_6
   try clear hcz14_0
   try clear hcz14_1
   try clear hcz14_2
   try clear hcz14_3
   try clear hcz14_4
   try clear hcz14_5
   try clear hcz14_6
   try clear hcz17_0
   try clear hcz17_1
   try clear hcz17_2
   try clear hcz17_3
   try clear hcz17_4
   try clear hcz17_5
   try clear hcz17_6
   try clear hcz18_0
   try clear hcz18_1
   try clear hcz18_2
   try clear hcz18_3
   try clear hcz18_4
   try clear hcz18_5
   try clear hcz18_6
   try clear hcz21_0
   try clear hcz21_1
   try clear hcz21_2
   try clear hcz21_3
   try clear hcz21_4
   try clear hcz21_5
   try clear hcz21_6
   try clear hcz22_0
   try clear hcz22_1
   try clear hcz22_2
   try clear hcz22_3
   try clear hcz22_4
   try clear hcz22_5
   try clear hcz22_6
   try clear hcz24_0
   try clear hcz24_1
   try clear hcz24_2
   try clear hcz24_3
   try clear hcz24_4
   try clear hcz24_5
   try clear hcz24_6
   try clear hcz25_0
   try clear hcz25_1
   try clear hcz25_2
   try clear hcz25_3
   try clear hcz25_4
   try clear hcz25_5
   try clear hcz25_6
   try clear hfz10_0
   try clear hfz10_1
   try clear hfz10_2
   try clear hfz10_3
   try clear hfz10_4
   try clear hfz10_5
   try clear hfz10_6
   try clear hfz14_0
   try clear hfz14_1
   try clear hfz14_2
   try clear hfz14_3
   try clear hfz14_4
   try clear hfz14_5
   try clear hfz14_6
   try clear hfz17_0
   try clear hfz17_1
   try clear hfz17_2
   try clear hfz17_3
   try clear hfz17_4
   try clear hfz17_5
   try clear hfz17_6
   try clear hfz18_0
   try clear hfz18_1
   try clear hfz18_2
   try clear hfz18_3
   try clear hfz18_4
   try clear hfz18_5
   try clear hfz18_6
   try clear hfz21_0
   try clear hfz21_1
   try clear hfz21_2
   try clear hfz21_3
   try clear hfz21_4
   try clear hfz21_5
   try clear hfz21_6
   try clear hfz22_0
   try clear hfz22_1
   try clear hfz22_2
   try clear hfz22_3
   try clear hfz22_4
   try clear hfz22_5
   try clear hfz22_6
   try clear hfz24_0
   try clear hfz24_1
   try clear hfz24_2
   try clear hfz24_3
   try clear hfz24_4
   try clear hfz24_5
   try clear hfz24_6
   try clear hfz25_0
   try clear hfz25_1
   try clear hfz25_2
   try clear hfz25_3
   try clear hfz25_4
   try clear hfz25_5
   try clear hfz25_6
   obtain ⟨kq, x42_5, rfl, HA, HJ5, BK168, BK177, HB⟩ := hcut
   cases kq with
   | zero => exact absurd HA.out (by simp [laws_FnDateOf.j0])
   | succ kj5 =>
    have H := HA.out
    clear HA
    simp only [laws_FnDateOf.j0] at H
    by_cases c26 : x42_5 = true
    ·subst c26
     have H1 : (if (t160 == t169 && (t161 == t170 && (t162 == t171 && (t163 == t172 && (t164 == t173 && (t165 == t174 && (t166 == t175))))))) = true then (some (t167 == t176)) else (some false)) = some r := by rw [if_pos rfl] at H; exact H
     clear H
     have H := H1
     clear H1
     by_cases c27 : (t160 == t169 && (t161 == t170 && (t162 == t171 && (t163 == t172 && (t164 == t173 && (t165 == t174 && (t166 == t175))))))) = true
     ·rw [if_pos c27] at H
      have c27b0 : (t160 == t169 && (t161 == t170 && (t162 == t171 && (t163 == t172 && (t164 == t173 && (t165 == t174 && (t166 == t175))))))) = true := c27
      (try (have c27b1 : decide (t160 = t169 && (t161 == t170 && (t162 == t171 && (t163 == t172 && (t164 == t173 && (t165 == t174 && (t166 == t175))))))) = true := by simpa using c27))
      (try (have c27b2 : (t160 == t169 && (t161 == t170 && (t162 == t171 && (t163 == t172 && (t164 == t173 && (t165 == t174 && (t166 == t175))))))) = true := by simpa using c27))
      clear c27
      obtain rfl := Option.some.inj H
      have hnb28 := NB168_177.out
      have hnc28 := NB177_168.out
      have hcz29_0 : wc.cell? ⟨gb168, 0, none⟩ = some (.int .i64 t160) := (blk_cell BK168.out 0).trans rfl
      have hcz29_1 : wc.cell? ⟨gb168, 1, none⟩ = some (.int .i64 t161) := (blk_cell BK168.out 1).trans rfl
      have hcz29_2 : wc.cell? ⟨gb168, 2, none⟩ = some (.int .i64 t162) := (blk_cell BK168.out 2).trans rfl
      have hcz29_3 : wc.cell? ⟨gb168, 3, none⟩ = some (.int .i64 t163) := (blk_cell BK168.out 3).trans rfl
      have hcz29_4 : wc.cell? ⟨gb168, 4, none⟩ = some (.int .i64 t164) := (blk_cell BK168.out 4).trans rfl
      have hcz29_5 : wc.cell? ⟨gb168, 5, none⟩ = some (.int .i64 t165) := (blk_cell BK168.out 5).trans rfl
      have hcz29_6 : wc.cell? ⟨gb168, 6, none⟩ = some (.int .i64 t166) := (blk_cell BK168.out 6).trans rfl
      have hfz29_0 := blk_frozen BK168.out 0
      have hfz29_1 := blk_frozen BK168.out 1
      have hfz29_2 := blk_frozen BK168.out 2
      have hfz29_3 := blk_frozen BK168.out 3
      have hfz29_4 := blk_frozen BK168.out 4
      have hfz29_5 := blk_frozen BK168.out 5
      have hfz29_6 := blk_frozen BK168.out 6
      have hcz30_0 : wc.cell? ⟨gb177, 0, none⟩ = some (.int .i64 t169) := (blk_cell BK177.out 0).trans rfl
      have hcz30_1 : wc.cell? ⟨gb177, 1, none⟩ = some (.int .i64 t170) := (blk_cell BK177.out 1).trans rfl
      have hcz30_2 : wc.cell? ⟨gb177, 2, none⟩ = some (.int .i64 t171) := (blk_cell BK177.out 2).trans rfl
      have hcz30_3 : wc.cell? ⟨gb177, 3, none⟩ = some (.int .i64 t172) := (blk_cell BK177.out 3).trans rfl
      have hcz30_4 : wc.cell? ⟨gb177, 4, none⟩ = some (.int .i64 t173) := (blk_cell BK177.out 4).trans rfl
      have hcz30_5 : wc.cell? ⟨gb177, 5, none⟩ = some (.int .i64 t174) := (blk_cell BK177.out 5).trans rfl
      have hcz30_6 : wc.cell? ⟨gb177, 6, none⟩ = some (.int .i64 t175) := (blk_cell BK177.out 6).trans rfl
      have hfz30_0 := blk_frozen BK177.out 0
      have hfz30_1 := blk_frozen BK177.out 1
      have hfz30_2 := blk_frozen BK177.out 2
      have hfz30_3 := blk_frozen BK177.out 3
      have hfz30_4 := blk_frozen BK177.out 4
      have hfz30_5 := blk_frozen BK177.out 5
      have hfz30_6 := blk_frozen BK177.out 6
      go_wp2
      go_ret
      exact ⟨by first | rfl | (simp [errW_none, errW_some] <;> rfl) | (simp [*, errW_none, errW_some] <;> rfl), by repeat (first | (with_reducible first | exact HB.out | apply below_alloc | apply pw_below_drewN | apply below_drew1 | refine below_set ?_ GE168.out | refine below_set ?_ GE177.out) | exact HB.out)⟩
     ·rw [if_neg c27] at H
      have c27b0 : (t160 == t169 && (t161 == t170 && (t162 == t171 && (t163 == t172 && (t164 == t173 && (t165 == t174 && (t166 == t175))))))) = false := by simpa using c27
      (try (have c27b1 : decide (t160 = t169 && (t161 == t170 && (t162 == t171 && (t163 == t172 && (t164 == t173 && (t165 == t174 && (t166 == t175))))))) = false := by simpa using c27))
      (try (have c27b2 : (t160 == t169 && (t161 == t170 && (t162 == t171 && (t163 == t172 && (t164 == t173 && (t165 == t174 && (t166 == t175))))))) = false := by simpa using c27))
      (try (have c27b3 : ¬ (t160 = t169 && (t161 == t170 && (t162 == t171 && (t163 == t172 && (t164 == t173 && (t165 == t174 && (t166 == t175))))))) := by simpa using c27))
      clear c27
      obtain rfl := Option.some.inj H
      have hnb31 := NB168_177.out
      have hnc31 := NB177_168.out
      have hcz32_0 : wc.cell? ⟨gb168, 0, none⟩ = some (.int .i64 t160) := (blk_cell BK168.out 0).trans rfl
      have hcz32_1 : wc.cell? ⟨gb168, 1, none⟩ = some (.int .i64 t161) := (blk_cell BK168.out 1).trans rfl
      have hcz32_2 : wc.cell? ⟨gb168, 2, none⟩ = some (.int .i64 t162) := (blk_cell BK168.out 2).trans rfl
      have hcz32_3 : wc.cell? ⟨gb168, 3, none⟩ = some (.int .i64 t163) := (blk_cell BK168.out 3).trans rfl
      have hcz32_4 : wc.cell? ⟨gb168, 4, none⟩ = some (.int .i64 t164) := (blk_cell BK168.out 4).trans rfl
      have hcz32_5 : wc.cell? ⟨gb168, 5, none⟩ = some (.int .i64 t165) := (blk_cell BK168.out 5).trans rfl
      have hcz32_6 : wc.cell? ⟨gb168, 6, none⟩ = some (.int .i64 t166) := (blk_cell BK168.out 6).trans rfl
      have hfz32_0 := blk_frozen BK168.out 0
      have hfz32_1 := blk_frozen BK168.out 1
      have hfz32_2 := blk_frozen BK168.out 2
      have hfz32_3 := blk_frozen BK168.out 3
      have hfz32_4 := blk_frozen BK168.out 4
      have hfz32_5 := blk_frozen BK168.out 5
      have hfz32_6 := blk_frozen BK168.out 6
      have hcz33_0 : wc.cell? ⟨gb177, 0, none⟩ = some (.int .i64 t169) := (blk_cell BK177.out 0).trans rfl
      have hcz33_1 : wc.cell? ⟨gb177, 1, none⟩ = some (.int .i64 t170) := (blk_cell BK177.out 1).trans rfl
      have hcz33_2 : wc.cell? ⟨gb177, 2, none⟩ = some (.int .i64 t171) := (blk_cell BK177.out 2).trans rfl
      have hcz33_3 : wc.cell? ⟨gb177, 3, none⟩ = some (.int .i64 t172) := (blk_cell BK177.out 3).trans rfl
      have hcz33_4 : wc.cell? ⟨gb177, 4, none⟩ = some (.int .i64 t173) := (blk_cell BK177.out 4).trans rfl
      have hcz33_5 : wc.cell? ⟨gb177, 5, none⟩ = some (.int .i64 t174) := (blk_cell BK177.out 5).trans rfl
      have hcz33_6 : wc.cell? ⟨gb177, 6, none⟩ = some (.int .i64 t175) := (blk_cell BK177.out 6).trans rfl
      have hfz33_0 := blk_frozen BK177.out 0
      have hfz33_1 := blk_frozen BK177.out 1
      have hfz33_2 := blk_frozen BK177.out 2
      have hfz33_3 := blk_frozen BK177.out 3
      have hfz33_4 := blk_frozen BK177.out 4
      have hfz33_5 := blk_frozen BK177.out 5
      have hfz33_6 := blk_frozen BK177.out 6
      go_wp2
      go_ret
      exact ⟨by first | rfl | (simp [errW_none, errW_some] <;> rfl) | (simp [*, errW_none, errW_some] <;> rfl), by repeat (first | (with_reducible first | exact HB.out | apply below_alloc | apply pw_below_drewN | apply below_drew1 | refine below_set ?_ GE168.out | refine below_set ?_ GE177.out) | exact HB.out)⟩
    ·replace c26 := Bool.eq_false_iff.mpr c26
     subst c26
     have H1 : ((impl_SecondsOf.f kj5 t160 t161 t162 t163 t164 t165 t166).bind fun bt178 => ((impl_DateValid.f kj5 t160 t161 t162 t163 t164 t165 t166).bind fun t180 => (if t180 = true then (if bt178.2 = true then (if bt178.1 = t158 then (some (t166 == t159)) else (some false)) else (some false)) else (some false)))) = some r := by rw [if_neg (show ¬ (false = true) by decide)] at H; exact H
     clear H
     have H := H1
     clear H1
     replace H := Option.bind_eq_some_iff.mp H
     obtain ⟨⟨t178, t179⟩, A340, H⟩ := H
     replace H : ((impl_DateValid.f kj5 t160 t161 t162 t163 t164 t165 t166).bind fun t180 => (if t180 = true then (if t179 = true then (if t178 = t158 then (some (t166 == t159)) else (some false)) else (some false)) else (some false))) = some r := H
     have A34 := Aside0.mk A340
     clear A340
     replace H := Option.bind_eq_some_iff.mp H
     obtain ⟨t180, A350, H⟩ := H
     replace H : (if t180 = true then (if t179 = true then (if t178 = t158 then (some (t166 == t159)) else (some false)) else (some false)) else (some false)) = some r := H
     have A35 := Aside0.mk A350
     clear A350
     by_cases c36 : t180 = true
     ·subst c36
      have H1 : (if t179 = true then (if t178 = t158 then (some (t166 == t159)) else (some false)) else (some false)) = some r := by rw [if_pos rfl] at H; exact H
      clear H
      have H := H1
      clear H1
      by_cases c37 : t179 = true
      ·subst c37
       have H1 : (if t178 = t158 then (some (t166 == t159)) else (some false)) = some r := by rw [if_pos rfl] at H; exact H
       clear H
       have H := H1
       clear H1
       by_cases c38 : t178 = t158
       ·rw [if_pos c38] at H
        have c38b0 : (t178 == t158) = true := beq_iff_eq.mpr c38
        have c38b1 : (t178 != t158) = false := bne_eq_false_iff_eq.mpr c38
        clear c38
        obtain rfl := Option.some.inj H
        have hnb39 := NB168_177.out
        have hnc39 := NB177_168.out
        have hcz40_0 : wc.cell? ⟨gb168, 0, none⟩ = some (.int .i64 t160) := (blk_cell BK168.out 0).trans rfl
        have hcz40_1 : wc.cell? ⟨gb168, 1, none⟩ = some (.int .i64 t161) := (blk_cell BK168.out 1).trans rfl
        have hcz40_2 : wc.cell? ⟨gb168, 2, none⟩ = some (.int .i64 t162) := (blk_cell BK168.out 2).trans rfl
        have hcz40_3 : wc.cell? ⟨gb168, 3, none⟩ = some (.int .i64 t163) := (blk_cell BK168.out 3).trans rfl
        have hcz40_4 : wc.cell? ⟨gb168, 4, none⟩ = some (.int .i64 t164) := (blk_cell BK168.out 4).trans rfl
        have hcz40_5 : wc.cell? ⟨gb168, 5, none⟩ = some (.int .i64 t165) := (blk_cell BK168.out 5).trans rfl
        have hcz40_6 : wc.cell? ⟨gb168, 6, none⟩ = some (.int .i64 t166) := (blk_cell BK168.out 6).trans rfl
        have hfz40_0 := blk_frozen BK168.out 0
        have hfz40_1 := blk_frozen BK168.out 1
        have hfz40_2 := blk_frozen BK168.out 2
        have hfz40_3 := blk_frozen BK168.out 3
        have hfz40_4 := blk_frozen BK168.out 4
        have hfz40_5 := blk_frozen BK168.out 5
        have hfz40_6 := blk_frozen BK168.out 6
        go_wp2_with (first | ((with_reducible refine gate_callee (f := 18) rfl ?_); refine goesL_ (some 53) rfl rfl Try.func18 (by kernel_rfl) rfl #[.agg #[.int .i64 t160, .int .i64 t161, .int .i64 t162, .int .i64 t163, .int .i64 t164, .int .i64 t165, .int .i64 t166]] rfl (by (try simp only [List.map_toArray, List.map_cons, List.map_nil]); first | done | rfl | (simp only [List.length_drop, List.length_take]; rfl)) ?_; (with_reducible refine (impl_SecondsOf.calls kj5 t160 t161 t162 t163 t164 t165 t166 t178 true _ A34.out).mono ?_); rintro e w41 ⟨rfl, hb⟩; refine ⟨_, rfl, ?_⟩; have n0_ := Aside0.mk (blk_below (g := gb168) (o := .cells #[.int .i64 t160, .int .i64 t161, .int .i64 t162, .int .i64 t163, .int .i64 t164, .int .i64 t165, .int .i64 t166] 28 (0, 0)) (by (with_reducible repeat (first | refine blk_drewN ?_ _ | refine blk_drew ?_ | refine blk_alloc ?_ _)); exact BK168.out) hb); have n1_ := Aside0.mk (blk_below (g := gb177) (o := .cells #[.int .i64 t169, .int .i64 t170, .int .i64 t171, .int .i64 t172, .int .i64 t173, .int .i64 t174, .int .i64 t175] 28 (0, 0)) (by (with_reducible repeat (first | refine blk_drewN ?_ _ | refine blk_drew ?_ | refine blk_alloc ?_ _)); exact BK177.out) hb); have n2_ := Aside0.mk (below_step (by repeat (first | (with_reducible first | exact HB.out | apply below_alloc | apply pw_below_drewN | apply below_drew1 | refine below_set ?_ GE168.out | refine below_set ?_ GE177.out) | exact HB.out)) hb); clear BK168; clear BK177; clear HB; have BK168 := n0_; have BK177 := n1_; have HB := n2_; clear n0_ n1_ n2_; (try clear hb); (try clear hb2); (try clear hk); (try clear hi); have hcz42_0 : w41.cell? ⟨gb168, 0, none⟩ = some (.int .i64 t160) := (blk_cell BK168.out 0).trans rfl; have hcz42_1 : w41.cell? ⟨gb168, 1, none⟩ = some (.int .i64 t161) := (blk_cell BK168.out 1).trans rfl; have hcz42_2 : w41.cell? ⟨gb168, 2, none⟩ = some (.int .i64 t162) := (blk_cell BK168.out 2).trans rfl; have hcz42_3 : w41.cell? ⟨gb168, 3, none⟩ = some (.int .i64 t163) := (blk_cell BK168.out 3).trans rfl; have hcz42_4 : w41.cell? ⟨gb168, 4, none⟩ = some (.int .i64 t164) := (blk_cell BK168.out 4).trans rfl; have hcz42_5 : w41.cell? ⟨gb168, 5, none⟩ = some (.int .i64 t165) := (blk_cell BK168.out 5).trans rfl; have hcz42_6 : w41.cell? ⟨gb168, 6, none⟩ = some (.int .i64 t166) := (blk_cell BK168.out 6).trans rfl; have hfz42_0 := blk_frozen BK168.out 0; have hfz42_1 := blk_frozen BK168.out 1; have hfz42_2 := blk_frozen BK168.out 2; have hfz42_3 := blk_frozen BK168.out 3; have hfz42_4 := blk_frozen BK168.out 4; have hfz42_5 := blk_frozen BK168.out 5; have hfz42_6 := blk_frozen BK168.out 6) | ((with_reducible refine gate_callee (f := 17) rfl ?_); refine goesL_ (some 57) rfl rfl Try.func17 (by kernel_rfl) rfl #[.agg #[.int .i64 t160, .int .i64 t161, .int .i64 t162, .int .i64 t163, .int .i64 t164, .int .i64 t165, .int .i64 t166]] rfl (by (try simp only [List.map_toArray, List.map_cons, List.map_nil]); first | done | rfl | (simp only [List.length_drop, List.length_take]; rfl)) ?_; (with_reducible refine (impl_DateValid.calls kj5 t160 t161 t162 t163 t164 t165 t166 true _ A35.out).mono ?_); rintro e w43 ⟨rfl, hb⟩; refine ⟨_, rfl, ?_⟩; have n0_ := Aside0.mk (blk_below (g := gb168) (o := .cells #[.int .i64 t160, .int .i64 t161, .int .i64 t162, .int .i64 t163, .int .i64 t164, .int .i64 t165, .int .i64 t166] 28 (0, 0)) (by (with_reducible repeat (first | refine blk_drewN ?_ _ | refine blk_drew ?_ | refine blk_alloc ?_ _)); exact BK168.out) hb); have n1_ := Aside0.mk (blk_below (g := gb177) (o := .cells #[.int .i64 t169, .int .i64 t170, .int .i64 t171, .int .i64 t172, .int .i64 t173, .int .i64 t174, .int .i64 t175] 28 (0, 0)) (by (with_reducible repeat (first | refine blk_drewN ?_ _ | refine blk_drew ?_ | refine blk_alloc ?_ _)); exact BK177.out) hb); have n2_ := Aside0.mk (below_step (by repeat (first | (with_reducible first | exact HB.out | apply below_alloc | apply pw_below_drewN | apply below_drew1 | refine below_set ?_ GE168.out | refine below_set ?_ GE177.out) | exact HB.out)) hb); clear BK168; clear BK177; clear HB; have BK168 := n0_; have BK177 := n1_; have HB := n2_; clear n0_ n1_ n2_; (try clear hb); (try clear hb2); (try clear hk); (try clear hi); have hcz44_0 : w43.cell? ⟨gb168, 0, none⟩ = some (.int .i64 t160) := (blk_cell BK168.out 0).trans rfl; have hcz44_1 : w43.cell? ⟨gb168, 1, none⟩ = some (.int .i64 t161) := (blk_cell BK168.out 1).trans rfl; have hcz44_2 : w43.cell? ⟨gb168, 2, none⟩ = some (.int .i64 t162) := (blk_cell BK168.out 2).trans rfl; have hcz44_3 : w43.cell? ⟨gb168, 3, none⟩ = some (.int .i64 t163) := (blk_cell BK168.out 3).trans rfl; have hcz44_4 : w43.cell? ⟨gb168, 4, none⟩ = some (.int .i64 t164) := (blk_cell BK168.out 4).trans rfl; have hcz44_5 : w43.cell? ⟨gb168, 5, none⟩ = some (.int .i64 t165) := (blk_cell BK168.out 5).trans rfl; have hcz44_6 : w43.cell? ⟨gb168, 6, none⟩ = some (.int .i64 t166) := (blk_cell BK168.out 6).trans rfl; have hfz44_0 := blk_frozen BK168.out 0; have hfz44_1 := blk_frozen BK168.out 1; have hfz44_2 := blk_frozen BK168.out 2; have hfz44_3 := blk_frozen BK168.out 3; have hfz44_4 := blk_frozen BK168.out 4; have hfz44_5 := blk_frozen BK168.out 5; have hfz44_6 := blk_frozen BK168.out 6))
        go_ret
        exact ⟨by first | rfl | (simp [errW_none, errW_some] <;> rfl) | (simp [*, errW_none, errW_some] <;> rfl), by repeat (first | (with_reducible first | exact HB.out | apply below_alloc | apply pw_below_drewN | apply below_drew1 | refine below_set ?_ GE168.out | refine below_set ?_ GE177.out) | exact HB.out)⟩
       ·rw [if_neg c38] at H
        have c38b0 : (t178 == t158) = false := beq_eq_false_iff_ne.mpr c38
        have c38b1 : (t178 != t158) = true := bne_iff_ne.mpr c38
        obtain rfl := Option.some.inj H
        have hnb45 := NB168_177.out
        have hnc45 := NB177_168.out
        have hcz46_0 : wc.cell? ⟨gb168, 0, none⟩ = some (.int .i64 t160) := (blk_cell BK168.out 0).trans rfl
        have hcz46_1 : wc.cell? ⟨gb168, 1, none⟩ = some (.int .i64 t161) := (blk_cell BK168.out 1).trans rfl
        have hcz46_2 : wc.cell? ⟨gb168, 2, none⟩ = some (.int .i64 t162) := (blk_cell BK168.out 2).trans rfl
        have hcz46_3 : wc.cell? ⟨gb168, 3, none⟩ = some (.int .i64 t163) := (blk_cell BK168.out 3).trans rfl
        have hcz46_4 : wc.cell? ⟨gb168, 4, none⟩ = some (.int .i64 t164) := (blk_cell BK168.out 4).trans rfl
        have hcz46_5 : wc.cell? ⟨gb168, 5, none⟩ = some (.int .i64 t165) := (blk_cell BK168.out 5).trans rfl
        have hcz46_6 : wc.cell? ⟨gb168, 6, none⟩ = some (.int .i64 t166) := (blk_cell BK168.out 6).trans rfl
        have hfz46_0 := blk_frozen BK168.out 0
        have hfz46_1 := blk_frozen BK168.out 1
        have hfz46_2 := blk_frozen BK168.out 2
        have hfz46_3 := blk_frozen BK168.out 3
        have hfz46_4 := blk_frozen BK168.out 4
        have hfz46_5 := blk_frozen BK168.out 5
        have hfz46_6 := blk_frozen BK168.out 6
        go_wp2_with (first | ((with_reducible refine gate_callee (f := 18) rfl ?_); refine goesL_ (some 53) rfl rfl Try.func18 (by kernel_rfl) rfl #[.agg #[.int .i64 t160, .int .i64 t161, .int .i64 t162, .int .i64 t163, .int .i64 t164, .int .i64 t165, .int .i64 t166]] rfl (by (try simp only [List.map_toArray, List.map_cons, List.map_nil]); first | done | rfl | (simp only [List.length_drop, List.length_take]; rfl)) ?_; (with_reducible refine (impl_SecondsOf.calls kj5 t160 t161 t162 t163 t164 t165 t166 t178 true _ A34.out).mono ?_); rintro e w47 ⟨rfl, hb⟩; refine ⟨_, rfl, ?_⟩; have n0_ := Aside0.mk (blk_below (g := gb168) (o := .cells #[.int .i64 t160, .int .i64 t161, .int .i64 t162, .int .i64 t163, .int .i64 t164, .int .i64 t165, .int .i64 t166] 28 (0, 0)) (by (with_reducible repeat (first | refine blk_drewN ?_ _ | refine blk_drew ?_ | refine blk_alloc ?_ _)); exact BK168.out) hb); have n1_ := Aside0.mk (blk_below (g := gb177) (o := .cells #[.int .i64 t169, .int .i64 t170, .int .i64 t171, .int .i64 t172, .int .i64 t173, .int .i64 t174, .int .i64 t175] 28 (0, 0)) (by (with_reducible repeat (first | refine blk_drewN ?_ _ | refine blk_drew ?_ | refine blk_alloc ?_ _)); exact BK177.out) hb); have n2_ := Aside0.mk (below_step (by repeat (first | (with_reducible first | exact HB.out | apply below_alloc | apply pw_below_drewN | apply below_drew1 | refine below_set ?_ GE168.out | refine below_set ?_ GE177.out) | exact HB.out)) hb); clear BK168; clear BK177; clear HB; have BK168 := n0_; have BK177 := n1_; have HB := n2_; clear n0_ n1_ n2_; (try clear hb); (try clear hb2); (try clear hk); (try clear hi); have hcz48_0 : w47.cell? ⟨gb168, 0, none⟩ = some (.int .i64 t160) := (blk_cell BK168.out 0).trans rfl; have hcz48_1 : w47.cell? ⟨gb168, 1, none⟩ = some (.int .i64 t161) := (blk_cell BK168.out 1).trans rfl; have hcz48_2 : w47.cell? ⟨gb168, 2, none⟩ = some (.int .i64 t162) := (blk_cell BK168.out 2).trans rfl; have hcz48_3 : w47.cell? ⟨gb168, 3, none⟩ = some (.int .i64 t163) := (blk_cell BK168.out 3).trans rfl; have hcz48_4 : w47.cell? ⟨gb168, 4, none⟩ = some (.int .i64 t164) := (blk_cell BK168.out 4).trans rfl; have hcz48_5 : w47.cell? ⟨gb168, 5, none⟩ = some (.int .i64 t165) := (blk_cell BK168.out 5).trans rfl; have hcz48_6 : w47.cell? ⟨gb168, 6, none⟩ = some (.int .i64 t166) := (blk_cell BK168.out 6).trans rfl; have hfz48_0 := blk_frozen BK168.out 0; have hfz48_1 := blk_frozen BK168.out 1; have hfz48_2 := blk_frozen BK168.out 2; have hfz48_3 := blk_frozen BK168.out 3; have hfz48_4 := blk_frozen BK168.out 4; have hfz48_5 := blk_frozen BK168.out 5; have hfz48_6 := blk_frozen BK168.out 6) | ((with_reducible refine gate_callee (f := 17) rfl ?_); refine goesL_ (some 57) rfl rfl Try.func17 (by kernel_rfl) rfl #[.agg #[.int .i64 t160, .int .i64 t161, .int .i64 t162, .int .i64 t163, .int .i64 t164, .int .i64 t165, .int .i64 t166]] rfl (by (try simp only [List.map_toArray, List.map_cons, List.map_nil]); first | done | rfl | (simp only [List.length_drop, List.length_take]; rfl)) ?_; (with_reducible refine (impl_DateValid.calls kj5 t160 t161 t162 t163 t164 t165 t166 true _ A35.out).mono ?_); rintro e w49 ⟨rfl, hb⟩; refine ⟨_, rfl, ?_⟩; have n0_ := Aside0.mk (blk_below (g := gb168) (o := .cells #[.int .i64 t160, .int .i64 t161, .int .i64 t162, .int .i64 t163, .int .i64 t164, .int .i64 t165, .int .i64 t166] 28 (0, 0)) (by (with_reducible repeat (first | refine blk_drewN ?_ _ | refine blk_drew ?_ | refine blk_alloc ?_ _)); exact BK168.out) hb); have n1_ := Aside0.mk (blk_below (g := gb177) (o := .cells #[.int .i64 t169, .int .i64 t170, .int .i64 t171, .int .i64 t172, .int .i64 t173, .int .i64 t174, .int .i64 t175] 28 (0, 0)) (by (with_reducible repeat (first | refine blk_drewN ?_ _ | refine blk_drew ?_ | refine blk_alloc ?_ _)); exact BK177.out) hb); have n2_ := Aside0.mk (below_step (by repeat (first | (with_reducible first | exact HB.out | apply below_alloc | apply pw_below_drewN | apply below_drew1 | refine below_set ?_ GE168.out | refine below_set ?_ GE177.out) | exact HB.out)) hb); clear BK168; clear BK177; clear HB; have BK168 := n0_; have BK177 := n1_; have HB := n2_; clear n0_ n1_ n2_; (try clear hb); (try clear hb2); (try clear hk); (try clear hi)))
        go_ret
        exact ⟨by first | rfl | (simp [errW_none, errW_some] <;> rfl) | (simp [*, errW_none, errW_some] <;> rfl), by repeat (first | (with_reducible first | exact HB.out | apply below_alloc | apply pw_below_drewN | apply below_drew1 | refine below_set ?_ GE168.out | refine below_set ?_ GE177.out) | exact HB.out)⟩
      ·replace c37 := Bool.eq_false_iff.mpr c37
       subst c37
       have H1 : (some false) = some r := by rw [if_neg (show ¬ (false = true) by decide)] at H; exact H
       clear H
       have H := H1
       clear H1
       obtain rfl := Option.some.inj H
       have hnb50 := NB168_177.out
       have hnc50 := NB177_168.out
       have hcz51_0 : wc.cell? ⟨gb168, 0, none⟩ = some (.int .i64 t160) := (blk_cell BK168.out 0).trans rfl
       have hcz51_1 : wc.cell? ⟨gb168, 1, none⟩ = some (.int .i64 t161) := (blk_cell BK168.out 1).trans rfl
       have hcz51_2 : wc.cell? ⟨gb168, 2, none⟩ = some (.int .i64 t162) := (blk_cell BK168.out 2).trans rfl
       have hcz51_3 : wc.cell? ⟨gb168, 3, none⟩ = some (.int .i64 t163) := (blk_cell BK168.out 3).trans rfl
       have hcz51_4 : wc.cell? ⟨gb168, 4, none⟩ = some (.int .i64 t164) := (blk_cell BK168.out 4).trans rfl
       have hcz51_5 : wc.cell? ⟨gb168, 5, none⟩ = some (.int .i64 t165) := (blk_cell BK168.out 5).trans rfl
       have hcz51_6 : wc.cell? ⟨gb168, 6, none⟩ = some (.int .i64 t166) := (blk_cell BK168.out 6).trans rfl
       have hfz51_0 := blk_frozen BK168.out 0
       have hfz51_1 := blk_frozen BK168.out 1
       have hfz51_2 := blk_frozen BK168.out 2
       have hfz51_3 := blk_frozen BK168.out 3
       have hfz51_4 := blk_frozen BK168.out 4
       have hfz51_5 := blk_frozen BK168.out 5
       have hfz51_6 := blk_frozen BK168.out 6
       go_wp2_with (first | ((with_reducible refine gate_callee (f := 18) rfl ?_); refine goesL_ (some 53) rfl rfl Try.func18 (by kernel_rfl) rfl #[.agg #[.int .i64 t160, .int .i64 t161, .int .i64 t162, .int .i64 t163, .int .i64 t164, .int .i64 t165, .int .i64 t166]] rfl (by (try simp only [List.map_toArray, List.map_cons, List.map_nil]); first | done | rfl | (simp only [List.length_drop, List.length_take]; rfl)) ?_; (with_reducible refine (impl_SecondsOf.calls kj5 t160 t161 t162 t163 t164 t165 t166 t178 false _ A34.out).mono ?_); rintro e w52 ⟨rfl, hb⟩; refine ⟨_, rfl, ?_⟩; have n0_ := Aside0.mk (blk_below (g := gb168) (o := .cells #[.int .i64 t160, .int .i64 t161, .int .i64 t162, .int .i64 t163, .int .i64 t164, .int .i64 t165, .int .i64 t166] 28 (0, 0)) (by (with_reducible repeat (first | refine blk_drewN ?_ _ | refine blk_drew ?_ | refine blk_alloc ?_ _)); exact BK168.out) hb); have n1_ := Aside0.mk (blk_below (g := gb177) (o := .cells #[.int .i64 t169, .int .i64 t170, .int .i64 t171, .int .i64 t172, .int .i64 t173, .int .i64 t174, .int .i64 t175] 28 (0, 0)) (by (with_reducible repeat (first | refine blk_drewN ?_ _ | refine blk_drew ?_ | refine blk_alloc ?_ _)); exact BK177.out) hb); have n2_ := Aside0.mk (below_step (by repeat (first | (with_reducible first | exact HB.out | apply below_alloc | apply pw_below_drewN | apply below_drew1 | refine below_set ?_ GE168.out | refine below_set ?_ GE177.out) | exact HB.out)) hb); clear BK168; clear BK177; clear HB; have BK168 := n0_; have BK177 := n1_; have HB := n2_; clear n0_ n1_ n2_; (try clear hb); (try clear hb2); (try clear hk); (try clear hi); have hcz53_0 : w52.cell? ⟨gb168, 0, none⟩ = some (.int .i64 t160) := (blk_cell BK168.out 0).trans rfl; have hcz53_1 : w52.cell? ⟨gb168, 1, none⟩ = some (.int .i64 t161) := (blk_cell BK168.out 1).trans rfl; have hcz53_2 : w52.cell? ⟨gb168, 2, none⟩ = some (.int .i64 t162) := (blk_cell BK168.out 2).trans rfl; have hcz53_3 : w52.cell? ⟨gb168, 3, none⟩ = some (.int .i64 t163) := (blk_cell BK168.out 3).trans rfl; have hcz53_4 : w52.cell? ⟨gb168, 4, none⟩ = some (.int .i64 t164) := (blk_cell BK168.out 4).trans rfl; have hcz53_5 : w52.cell? ⟨gb168, 5, none⟩ = some (.int .i64 t165) := (blk_cell BK168.out 5).trans rfl; have hcz53_6 : w52.cell? ⟨gb168, 6, none⟩ = some (.int .i64 t166) := (blk_cell BK168.out 6).trans rfl; have hfz53_0 := blk_frozen BK168.out 0; have hfz53_1 := blk_frozen BK168.out 1; have hfz53_2 := blk_frozen BK168.out 2; have hfz53_3 := blk_frozen BK168.out 3; have hfz53_4 := blk_frozen BK168.out 4; have hfz53_5 := blk_frozen BK168.out 5; have hfz53_6 := blk_frozen BK168.out 6) | ((with_reducible refine gate_callee (f := 17) rfl ?_); refine goesL_ (some 57) rfl rfl Try.func17 (by kernel_rfl) rfl #[.agg #[.int .i64 t160, .int .i64 t161, .int .i64 t162, .int .i64 t163, .int .i64 t164, .int .i64 t165, .int .i64 t166]] rfl (by (try simp only [List.map_toArray, List.map_cons, List.map_nil]); first | done | rfl | (simp only [List.length_drop, List.length_take]; rfl)) ?_; (with_reducible refine (impl_DateValid.calls kj5 t160 t161 t162 t163 t164 t165 t166 true _ A35.out).mono ?_); rintro e w54 ⟨rfl, hb⟩; refine ⟨_, rfl, ?_⟩; have n0_ := Aside0.mk (blk_below (g := gb168) (o := .cells #[.int .i64 t160, .int .i64 t161, .int .i64 t162, .int .i64 t163, .int .i64 t164, .int .i64 t165, .int .i64 t166] 28 (0, 0)) (by (with_reducible repeat (first | refine blk_drewN ?_ _ | refine blk_drew ?_ | refine blk_alloc ?_ _)); exact BK168.out) hb); have n1_ := Aside0.mk (blk_below (g := gb177) (o := .cells #[.int .i64 t169, .int .i64 t170, .int .i64 t171, .int .i64 t172, .int .i64 t173, .int .i64 t174, .int .i64 t175] 28 (0, 0)) (by (with_reducible repeat (first | refine blk_drewN ?_ _ | refine blk_drew ?_ | refine blk_alloc ?_ _)); exact BK177.out) hb); have n2_ := Aside0.mk (below_step (by repeat (first | (with_reducible first | exact HB.out | apply below_alloc | apply pw_below_drewN | apply below_drew1 | refine below_set ?_ GE168.out | refine below_set ?_ GE177.out) | exact HB.out)) hb); clear BK168; clear BK177; clear HB; have BK168 := n0_; have BK177 := n1_; have HB := n2_; clear n0_ n1_ n2_; (try clear hb); (try clear hb2); (try clear hk); (try clear hi)))
       go_ret
       exact ⟨by first | rfl | (simp [errW_none, errW_some] <;> rfl) | (simp [*, errW_none, errW_some] <;> rfl), by repeat (first | (with_reducible first | exact HB.out | apply below_alloc | apply pw_below_drewN | apply below_drew1 | refine below_set ?_ GE168.out | refine below_set ?_ GE177.out) | exact HB.out)⟩
     ·replace c36 := Bool.eq_false_iff.mpr c36
      subst c36
      have H1 : (some false) = some r := by rw [if_neg (show ¬ (false = true) by decide)] at H; exact H
      clear H
      have H := H1
      clear H1
      obtain rfl := Option.some.inj H
      have hnb55 := NB168_177.out
      have hnc55 := NB177_168.out
      have hcz56_0 : wc.cell? ⟨gb168, 0, none⟩ = some (.int .i64 t160) := (blk_cell BK168.out 0).trans rfl
      have hcz56_1 : wc.cell? ⟨gb168, 1, none⟩ = some (.int .i64 t161) := (blk_cell BK168.out 1).trans rfl
      have hcz56_2 : wc.cell? ⟨gb168, 2, none⟩ = some (.int .i64 t162) := (blk_cell BK168.out 2).trans rfl
      have hcz56_3 : wc.cell? ⟨gb168, 3, none⟩ = some (.int .i64 t163) := (blk_cell BK168.out 3).trans rfl
      have hcz56_4 : wc.cell? ⟨gb168, 4, none⟩ = some (.int .i64 t164) := (blk_cell BK168.out 4).trans rfl
      have hcz56_5 : wc.cell? ⟨gb168, 5, none⟩ = some (.int .i64 t165) := (blk_cell BK168.out 5).trans rfl
      have hcz56_6 : wc.cell? ⟨gb168, 6, none⟩ = some (.int .i64 t166) := (blk_cell BK168.out 6).trans rfl
      have hfz56_0 := blk_frozen BK168.out 0
      have hfz56_1 := blk_frozen BK168.out 1
      have hfz56_2 := blk_frozen BK168.out 2
      have hfz56_3 := blk_frozen BK168.out 3
      have hfz56_4 := blk_frozen BK168.out 4
      have hfz56_5 := blk_frozen BK168.out 5
      have hfz56_6 := blk_frozen BK168.out 6
      go_wp2_with (first | ((with_reducible refine gate_callee (f := 18) rfl ?_); refine goesL_ (some 53) rfl rfl Try.func18 (by kernel_rfl) rfl #[.agg #[.int .i64 t160, .int .i64 t161, .int .i64 t162, .int .i64 t163, .int .i64 t164, .int .i64 t165, .int .i64 t166]] rfl (by (try simp only [List.map_toArray, List.map_cons, List.map_nil]); first | done | rfl | (simp only [List.length_drop, List.length_take]; rfl)) ?_; (with_reducible refine (impl_SecondsOf.calls kj5 t160 t161 t162 t163 t164 t165 t166 t178 t179 _ A34.out).mono ?_); rintro e w57 ⟨rfl, hb⟩; refine ⟨_, rfl, ?_⟩; have n0_ := Aside0.mk (blk_below (g := gb168) (o := .cells #[.int .i64 t160, .int .i64 t161, .int .i64 t162, .int .i64 t163, .int .i64 t164, .int .i64 t165, .int .i64 t166] 28 (0, 0)) (by (with_reducible repeat (first | refine blk_drewN ?_ _ | refine blk_drew ?_ | refine blk_alloc ?_ _)); exact BK168.out) hb); have n1_ := Aside0.mk (blk_below (g := gb177) (o := .cells #[.int .i64 t169, .int .i64 t170, .int .i64 t171, .int .i64 t172, .int .i64 t173, .int .i64 t174, .int .i64 t175] 28 (0, 0)) (by (with_reducible repeat (first | refine blk_drewN ?_ _ | refine blk_drew ?_ | refine blk_alloc ?_ _)); exact BK177.out) hb); have n2_ := Aside0.mk (below_step (by repeat (first | (with_reducible first | exact HB.out | apply below_alloc | apply pw_below_drewN | apply below_drew1 | refine below_set ?_ GE168.out | refine below_set ?_ GE177.out) | exact HB.out)) hb); clear BK168; clear BK177; clear HB; have BK168 := n0_; have BK177 := n1_; have HB := n2_; clear n0_ n1_ n2_; (try clear hb); (try clear hb2); (try clear hk); (try clear hi); have hcz58_0 : w57.cell? ⟨gb168, 0, none⟩ = some (.int .i64 t160) := (blk_cell BK168.out 0).trans rfl; have hcz58_1 : w57.cell? ⟨gb168, 1, none⟩ = some (.int .i64 t161) := (blk_cell BK168.out 1).trans rfl; have hcz58_2 : w57.cell? ⟨gb168, 2, none⟩ = some (.int .i64 t162) := (blk_cell BK168.out 2).trans rfl; have hcz58_3 : w57.cell? ⟨gb168, 3, none⟩ = some (.int .i64 t163) := (blk_cell BK168.out 3).trans rfl; have hcz58_4 : w57.cell? ⟨gb168, 4, none⟩ = some (.int .i64 t164) := (blk_cell BK168.out 4).trans rfl; have hcz58_5 : w57.cell? ⟨gb168, 5, none⟩ = some (.int .i64 t165) := (blk_cell BK168.out 5).trans rfl; have hcz58_6 : w57.cell? ⟨gb168, 6, none⟩ = some (.int .i64 t166) := (blk_cell BK168.out 6).trans rfl; have hfz58_0 := blk_frozen BK168.out 0; have hfz58_1 := blk_frozen BK168.out 1; have hfz58_2 := blk_frozen BK168.out 2; have hfz58_3 := blk_frozen BK168.out 3; have hfz58_4 := blk_frozen BK168.out 4; have hfz58_5 := blk_frozen BK168.out 5; have hfz58_6 := blk_frozen BK168.out 6) | ((with_reducible refine gate_callee (f := 17) rfl ?_); refine goesL_ (some 57) rfl rfl Try.func17 (by kernel_rfl) rfl #[.agg #[.int .i64 t160, .int .i64 t161, .int .i64 t162, .int .i64 t163, .int .i64 t164, .int .i64 t165, .int .i64 t166]] rfl (by (try simp only [List.map_toArray, List.map_cons, List.map_nil]); first | done | rfl | (simp only [List.length_drop, List.length_take]; rfl)) ?_; (with_reducible refine (impl_DateValid.calls kj5 t160 t161 t162 t163 t164 t165 t166 false _ A35.out).mono ?_); rintro e w59 ⟨rfl, hb⟩; refine ⟨_, rfl, ?_⟩; have n0_ := Aside0.mk (blk_below (g := gb168) (o := .cells #[.int .i64 t160, .int .i64 t161, .int .i64 t162, .int .i64 t163, .int .i64 t164, .int .i64 t165, .int .i64 t166] 28 (0, 0)) (by (with_reducible repeat (first | refine blk_drewN ?_ _ | refine blk_drew ?_ | refine blk_alloc ?_ _)); exact BK168.out) hb); have n1_ := Aside0.mk (blk_below (g := gb177) (o := .cells #[.int .i64 t169, .int .i64 t170, .int .i64 t171, .int .i64 t172, .int .i64 t173, .int .i64 t174, .int .i64 t175] 28 (0, 0)) (by (with_reducible repeat (first | refine blk_drewN ?_ _ | refine blk_drew ?_ | refine blk_alloc ?_ _)); exact BK177.out) hb); have n2_ := Aside0.mk (below_step (by repeat (first | (with_reducible first | exact HB.out | apply below_alloc | apply pw_below_drewN | apply below_drew1 | refine below_set ?_ GE168.out | refine below_set ?_ GE177.out) | exact HB.out)) hb); clear BK168; clear BK177; clear HB; have BK168 := n0_; have BK177 := n1_; have HB := n2_; clear n0_ n1_ n2_; (try clear hb); (try clear hb2); (try clear hk); (try clear hi)))
      go_ret
      exact ⟨by first | rfl | (simp [errW_none, errW_some] <;> rfl) | (simp [*, errW_none, errW_some] <;> rfl), by repeat (first | (with_reducible first | exact HB.out | apply below_alloc | apply pw_below_drewN | apply below_drew1 | refine below_set ?_ GE168.out | refine below_set ?_ GE177.out) | exact HB.out)⟩

/-- THE ONE PURE STATEMENT of laws_FnDateOf: yours. -/
def laws_FnDateOf.Pure : Prop := ∀ (l0 : List Int), l0.length ≤ maxLen → l0.length * 1 ≤ 140737488351232 → (∀ x ∈ l0, (Lit.int .u8 x).wf = true) → ∃ k, laws_FnDateOf.f k l0 = some true
theorem laws_FnDateOf.walk (P : laws_FnDateOf.Pure) (a0 : Option Addr) (len0 cap0 : Nat) (z0 : List Int) (w : World) (w0 : (a0 = none ∧ len0 = 0 ∧ cap0 = 0 ∧ z0 = []) ∨ ∃ x, a0 = some x ∧ len0 ≤ cap0 ∧ cap0 ≤ maxLen ∧ z0.length = cap0 ∧ (∀ i, i < z0.length → w.cell? (x.add i) = some (.int .u8 (z0.getD i 0))) ∧ ∀ n ∈ z0, (Lit.int .u8 n).wf = true) (y0 : len0 * 1 ≤ 140737488351232) :
  Calls Try.prog 10 #[.slice a0 len0 cap0] w fun e w' => e = .returned (.bool true) ∧ Below w.heap.size w w' := by
 obtain ⟨l0, rfl, hr0, hm0, hw0, hc0⟩ := ReadsInt.ofRowC w0
 obtain ⟨k, h⟩ := P l0 hm0 y0 hw0
 refine (laws_FnDateOf.calls k _ _ l0 true w (Kd.C_of_reads (d := (0 : Int)) (h1 := fun _ => rfl) hr0) hc0 h).mono ?_
 rintro e w' ⟨rfl, hd⟩
 exact ⟨rfl, hd⟩

end Go.Proofs.Ytaafnpellbhjhaa.PFnDateOf
