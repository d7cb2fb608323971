-- Written by a program of this session (wip/tool/myprint.py) out of the translation.
import Derived.Test.YthmdblcgiljhpaaPFnSecondsOfx0
import Derived.Test.YthmdblcgiljhpaaPFnSecondsOfx4
import Derived.Test.YthmdblcgiljhpaaPFnSecondsOfx5
import Derived.Test.YthmdblcgiljhpaaPFnSecondsOfx6
import Derived.Test.YthmdblcgiljhpaaPFnSecondsOfx7
namespace Go.Proofs.Ythmdblcgiljhpaa.PFnSecondsOf
open Go.RowKit Go.Proofs.YthmdblcgiljhpaaW.PrintWords Go.Proofs.YthmdblcgiljhpaaW.PrintLast Go.Proofs.YthmdblcgiljhpaaW.PrintMore
open Go.Proofs.YthmdblcgiljhpaaW.PrintWords renaming blk_cell → Ba, blk_frozen → Bb, pw_below_drewN → Bc, below_drew1 → Bd, below_alloc → Be, blk_drewN → Bf, blk_alloc → Bg, blk_drew → Bh
attribute [local go_sem] max2_int min2_int max_two min_two max_three min_three max_four min_four   -- for this text's walks alone
set_option linter.unusedVariables false
set_option linter.unusedSimpArgs false

/-! ### spec_DateValid: function 11 -/
def spec_DateValid.f (k : Nat) (a0_0 : Int) (a0_1 : Int) (a0_2 : Int) (a0_3 : Int) (a0_4 : Int) (a0_5 : Int) (a0_6 : Int) : Option (Bool) := (spec_l4Fields.f k a0_0 a0_1 a0_2 a0_3 a0_4 a0_5 a0_6).bind fun t237 => (if t237 = true then ((spec_l4Seconds.f k a0_0 a0_1 a0_2 a0_3 a0_4 a0_5 a0_6).bind fun t238 => (if t238 ≥ 0 then (some (decide (t238 < 4102444800))) else (some false))) else (some false))
theorem spec_DateValid.mono : ∀ a0 a1 a2 a3 a4 a5 a6 k, LeO (spec_DateValid.f k a0 a1 a2 a3 a4 a5 a6) (spec_DateValid.f (k + 1) a0 a1 a2 a3 a4 a5 a6) := by
 intro a0 a1 a2 a3 a4 a5 a6 k
 unfold spec_DateValid.f
 repeat' first
   | (with_reducible exact spec_l4Fields.mono _ _ _ _ _ _ _ _)
   | (with_reducible exact spec_l4Seconds.mono _ _ _ _ _ _ _ _)
   | (with_reducible exact LeO.refl _)
   | (with_reducible exact LeO.none _)
   | (with_reducible refine LeO.ite ?_ ?_)
   | (with_reducible refine LeO.bind ?_ (fun _ => ?_))
set_option maxHeartbeats 8000000 in
set_option maxRecDepth 100000 in
theorem spec_DateValid.calls (k : Nat) (a0_0 : Int) (a0_1 : Int) (a0_2 : Int) (a0_3 : Int) (a0_4 : Int) (a0_5 : Int) (a0_6 : Int) (r : Bool) (w : World) (h : spec_DateValid.f k a0_0 a0_1 a0_2 a0_3 a0_4 a0_5 a0_6 = some r) :
  Calls Try.prog 11 #[.agg #[.int .i64 a0_0, .int .i64 a0_1, .int .i64 a0_2, .int .i64 a0_3, .int .i64 a0_4, .int .i64 a0_5, .int .i64 a0_6]] w fun e w' => e = .returned (.bool r) ∧ Below w.heap.size w w' := by
 have hu24 := Try.underlying24
 have HB := Aside0.mk (Below.refl w.heap.size w)
 have H : ((spec_l4Fields.f k a0_0 a0_1 a0_2 a0_3 a0_4 a0_5 a0_6).bind fun t237 => (if t237 = true then ((spec_l4Seconds.f k a0_0 a0_1 a0_2 a0_3 a0_4 a0_5 a0_6).bind fun t238 => (if t238 ≥ 0 then (some (decide (t238 < 4102444800))) else (some false))) else (some false))) = some r := h
 clear h
 replace H := Option.bind_eq_some_iff.mp H
 obtain ⟨t237, A20, H⟩ := H
 replace H : (if t237 = true then ((spec_l4Seconds.f k a0_0 a0_1 a0_2 a0_3 a0_4 a0_5 a0_6).bind fun t238 => (if t238 ≥ 0 then (some (decide (t238 < 4102444800))) else (some false))) else (some false)) = some r := H
 have A2 := Aside0.mk A20
 clear A20
 by_cases c3 : t237 = true
 ·subst c3
  have H1 : ((spec_l4Seconds.f k a0_0 a0_1 a0_2 a0_3 a0_4 a0_5 a0_6).bind fun t238 => (if t238 ≥ 0 then (some (decide (t238 < 4102444800))) else (some false))) = some r := by rw [if_pos rfl] at H; exact H
  clear H
  have H := H1
  clear H1
  replace H := Option.bind_eq_some_iff.mp H
  obtain ⟨t238, A40, H⟩ := H
  replace H : (if t238 ≥ 0 then (some (decide (t238 < 4102444800))) else (some false)) = some r := H
  have A4 := Aside0.mk A40
  clear A40
  by_cases c5 : t238 ≥ 0
  ·rw [if_pos c5] at H
   have c5b0 : decide (0 ≤ t238) = true := decide_eq_true c5
   clear c5
   obtain rfl := Option.some.inj H
   go_enter Try.func11, Try.ntmps11
   go_wp2_with (first | ((with_reducible refine gate_dst (N := 1) rfl ?_); refine box_event ?hg (N := 1) ?hd (cs := #[.int .i64 a0_0, .int .i64 a0_1, .int .i64 a0_2, .int .i64 a0_3, .int .i64 a0_4, .int .i64 a0_5, .int .i64 a0_6]) (t := 24) ?hr ?_; (case hd => rfl); (case hg => rfl); (case hr => first | (go_simp; done) | (go_simp; rfl)); intro gb236 hg w6 hbox hb; have n0_ := Aside0.mk (below_step (by repeat (first | (with_reducible first | exact HB.out | apply Be | apply Bc | apply Bd) | exact HB.out)) hb); have n1_ := Aside0.mk (hbox); have n2_ := Aside0.mk ((by rw [hg]; exact (below_size (by repeat (first | (with_reducible first | exact HB.out | apply Be | apply Bc | apply Bd) | exact HB.out))) : w.heap.size ≤ gb236)); have n3_ := Aside0.mk ((by rw [hg]; exact (below_size (by repeat (first | (with_reducible first | exact HB.out | apply Be | apply Bc | apply Bd) | exact HB.out))) : w.heap.size ≤ gb236)); clear HB; have HB := n0_; have BK236 := n1_; have GW236 := n2_; have GE236 := n3_; clear n0_ n1_ n2_ n3_; clear hb hbox hg; have hcz7_0 : w6.cell? ⟨gb236, 0, none⟩ = some (.int .i64 a0_0) := (Ba BK236.out 0).trans rfl; have hcz7_1 : w6.cell? ⟨gb236, 1, none⟩ = some (.int .i64 a0_1) := (Ba BK236.out 1).trans rfl; have hcz7_2 : w6.cell? ⟨gb236, 2, none⟩ = some (.int .i64 a0_2) := (Ba BK236.out 2).trans rfl; have hcz7_3 : w6.cell? ⟨gb236, 3, none⟩ = some (.int .i64 a0_3) := (Ba BK236.out 3).trans rfl; have hcz7_4 : w6.cell? ⟨gb236, 4, none⟩ = some (.int .i64 a0_4) := (Ba BK236.out 4).trans rfl; have hcz7_5 : w6.cell? ⟨gb236, 5, none⟩ = some (.int .i64 a0_5) := (Ba BK236.out 5).trans rfl; have hcz7_6 : w6.cell? ⟨gb236, 6, none⟩ = some (.int .i64 a0_6) := (Ba BK236.out 6).trans rfl; have hfz7_0 := Bb BK236.out 0; have hfz7_1 := Bb BK236.out 1; have hfz7_2 := Bb BK236.out 2; have hfz7_3 := Bb BK236.out 3; have hfz7_4 := Bb BK236.out 4; have hfz7_5 := Bb BK236.out 5; have hfz7_6 := Bb BK236.out 6) | ((with_reducible refine gate_callee (f := 20) rfl ?_); refine goesL_ (some 5) rfl rfl Try.func20 (by kernel_rfl) rfl #[.agg #[.int .i64 a0_0, .int .i64 a0_1, .int .i64 a0_2, .int .i64 a0_3, .int .i64 a0_4, .int .i64 a0_5, .int .i64 a0_6]] rfl (by (try simp only [List.map_toArray, List.map_cons, List.map_nil]); first | done | rfl | (simp only [List.length_drop, List.length_take]; rfl)) ?_; (with_reducible refine (spec_l4Fields.calls k a0_0 a0_1 a0_2 a0_3 a0_4 a0_5 a0_6 true _ A2.out).mono ?_); rintro e w8 ⟨rfl, hb⟩; refine ⟨_, rfl, ?_⟩; have n0_ := Aside0.mk (blk_below (g := gb236) (o := .cells #[.int .i64 a0_0, .int .i64 a0_1, .int .i64 a0_2, .int .i64 a0_3, .int .i64 a0_4, .int .i64 a0_5, .int .i64 a0_6] 24 (0, 0)) (by (with_reducible repeat (first | refine Bf ?_ _ | refine Bh ?_ | refine Bg ?_ _)); exact BK236.out) hb); have n1_ := Aside0.mk (below_step (by repeat (first | (with_reducible first | exact HB.out | apply Be | apply Bc | apply Bd | refine below_set ?_ GE236.out) | exact HB.out)) hb); clear BK236; clear HB; have BK236 := n0_; have HB := n1_; clear n0_ n1_; (try clear hb); (try clear hb2); (try clear hk); (try clear hi); have hcz9_0 : w8.cell? ⟨gb236, 0, none⟩ = some (.int .i64 a0_0) := (Ba BK236.out 0).trans rfl; have hcz9_1 : w8.cell? ⟨gb236, 1, none⟩ = some (.int .i64 a0_1) := (Ba BK236.out 1).trans rfl; have hcz9_2 : w8.cell? ⟨gb236, 2, none⟩ = some (.int .i64 a0_2) := (Ba BK236.out 2).trans rfl; have hcz9_3 : w8.cell? ⟨gb236, 3, none⟩ = some (.int .i64 a0_3) := (Ba BK236.out 3).trans rfl; have hcz9_4 : w8.cell? ⟨gb236, 4, none⟩ = some (.int .i64 a0_4) := (Ba BK236.out 4).trans rfl; have hcz9_5 : w8.cell? ⟨gb236, 5, none⟩ = some (.int .i64 a0_5) := (Ba BK236.out 5).trans rfl; have hcz9_6 : w8.cell? ⟨gb236, 6, none⟩ = some (.int .i64 a0_6) := (Ba BK236.out 6).trans rfl; have hfz9_0 := Bb BK236.out 0; have hfz9_1 := Bb BK236.out 1; have hfz9_2 := Bb BK236.out 2; have hfz9_3 := Bb BK236.out 3; have hfz9_4 := Bb BK236.out 4; have hfz9_5 := Bb BK236.out 5; have hfz9_6 := Bb BK236.out 6) | ((with_reducible refine gate_callee (f := 12) rfl ?_); refine goesL_ (some 8) rfl rfl Try.func12 (by kernel_rfl) rfl #[.agg #[.int .i64 a0_0, .int .i64 a0_1, .int .i64 a0_2, .int .i64 a0_3, .int .i64 a0_4, .int .i64 a0_5, .int .i64 a0_6]] rfl (by (try simp only [List.map_toArray, List.map_cons, List.map_nil]); first | done | rfl | (simp only [List.length_drop, List.length_take]; rfl)) ?_; (with_reducible refine (spec_l4Seconds.calls k a0_0 a0_1 a0_2 a0_3 a0_4 a0_5 a0_6 t238 _ A4.out).mono ?_); rintro e w10 ⟨rfl, hb⟩; refine ⟨_, rfl, ?_⟩; have n0_ := Aside0.mk (blk_below (g := gb236) (o := .cells #[.int .i64 a0_0, .int .i64 a0_1, .int .i64 a0_2, .int .i64 a0_3, .int .i64 a0_4, .int .i64 a0_5, .int .i64 a0_6] 24 (0, 0)) (by (with_reducible repeat (first | refine Bf ?_ _ | refine Bh ?_ | refine Bg ?_ _)); exact BK236.out) hb); have n1_ := Aside0.mk (below_step (by repeat (first | (with_reducible first | exact HB.out | apply Be | apply Bc | apply Bd | refine below_set ?_ GE236.out) | exact HB.out)) hb); clear BK236; clear HB; have BK236 := n0_; have HB := n1_; clear n0_ n1_; (try clear hb); (try clear hb2); (try clear hk); (try clear hi)))
   go_ret
   exact ⟨by first | rfl | (simp [errW_none, errW_some] <;> rfl) | (simp [*, errW_none, errW_some] <;> rfl), by repeat (first | (with_reducible first | exact HB.out | apply Be | apply Bc | apply Bd | refine below_set ?_ GE236.out) | exact HB.out)⟩
  rw [if_neg c5] at H
  have c5b0 : decide (0 ≤ t238) = false := decide_eq_false c5
  clear c5
  obtain rfl := Option.some.inj H
  go_enter Try.func11, Try.ntmps11
  go_wp2_with (first | ((with_reducible refine gate_dst (N := 1) rfl ?_); refine box_event ?hg (N := 1) ?hd (cs := #[.int .i64 a0_0, .int .i64 a0_1, .int .i64 a0_2, .int .i64 a0_3, .int .i64 a0_4, .int .i64 a0_5, .int .i64 a0_6]) (t := 24) ?hr ?_; (case hd => rfl); (case hg => rfl); (case hr => first | (go_simp; done) | (go_simp; rfl)); intro gb236 hg w11 hbox hb; have n0_ := Aside0.mk (below_step (by repeat (first | (with_reducible first | exact HB.out | apply Be | apply Bc | apply Bd) | exact HB.out)) hb); have n1_ := Aside0.mk (hbox); have n2_ := Aside0.mk ((by rw [hg]; exact (below_size (by repeat (first | (with_reducible first | exact HB.out | apply Be | apply Bc | apply Bd) | exact HB.out))) : w.heap.size ≤ gb236)); have n3_ := Aside0.mk ((by rw [hg]; exact (below_size (by repeat (first | (with_reducible first | exact HB.out | apply Be | apply Bc | apply Bd) | exact HB.out))) : w.heap.size ≤ gb236)); clear HB; have HB := n0_; have BK236 := n1_; have GW236 := n2_; have GE236 := n3_; clear n0_ n1_ n2_ n3_; clear hb hbox hg; have hcz12_0 : w11.cell? ⟨gb236, 0, none⟩ = some (.int .i64 a0_0) := (Ba BK236.out 0).trans rfl; have hcz12_1 : w11.cell? ⟨gb236, 1, none⟩ = some (.int .i64 a0_1) := (Ba BK236.out 1).trans rfl; have hcz12_2 : w11.cell? ⟨gb236, 2, none⟩ = some (.int .i64 a0_2) := (Ba BK236.out 2).trans rfl; have hcz12_3 : w11.cell? ⟨gb236, 3, none⟩ = some (.int .i64 a0_3) := (Ba BK236.out 3).trans rfl; have hcz12_4 : w11.cell? ⟨gb236, 4, none⟩ = some (.int .i64 a0_4) := (Ba BK236.out 4).trans rfl; have hcz12_5 : w11.cell? ⟨gb236, 5, none⟩ = some (.int .i64 a0_5) := (Ba BK236.out 5).trans rfl; have hcz12_6 : w11.cell? ⟨gb236, 6, none⟩ = some (.int .i64 a0_6) := (Ba BK236.out 6).trans rfl; have hfz12_0 := Bb BK236.out 0; have hfz12_1 := Bb BK236.out 1; have hfz12_2 := Bb BK236.out 2; have hfz12_3 := Bb BK236.out 3; have hfz12_4 := Bb BK236.out 4; have hfz12_5 := Bb BK236.out 5; have hfz12_6 := Bb BK236.out 6) | ((with_reducible refine gate_callee (f := 20) rfl ?_); refine goesL_ (some 5) rfl rfl Try.func20 (by kernel_rfl) rfl #[.agg #[.int .i64 a0_0, .int .i64 a0_1, .int .i64 a0_2, .int .i64 a0_3, .int .i64 a0_4, .int .i64 a0_5, .int .i64 a0_6]] rfl (by (try simp only [List.map_toArray, List.map_cons, List.map_nil]); first | done | rfl | (simp only [List.length_drop, List.length_take]; rfl)) ?_; (with_reducible refine (spec_l4Fields.calls k a0_0 a0_1 a0_2 a0_3 a0_4 a0_5 a0_6 true _ A2.out).mono ?_); rintro e w13 ⟨rfl, hb⟩; refine ⟨_, rfl, ?_⟩; have n0_ := Aside0.mk (blk_below (g := gb236) (o := .cells #[.int .i64 a0_0, .int .i64 a0_1, .int .i64 a0_2, .int .i64 a0_3, .int .i64 a0_4, .int .i64 a0_5, .int .i64 a0_6] 24 (0, 0)) (by (with_reducible repeat (first | refine Bf ?_ _ | refine Bh ?_ | refine Bg ?_ _)); exact BK236.out) hb); have n1_ := Aside0.mk (below_step (by repeat (first | (with_reducible first | exact HB.out | apply Be | apply Bc | apply Bd | refine below_set ?_ GE236.out) | exact HB.out)) hb); clear BK236; clear HB; have BK236 := n0_; have HB := n1_; clear n0_ n1_; (try clear hb); (try clear hb2); (try clear hk); (try clear hi); have hcz14_0 : w13.cell? ⟨gb236, 0, none⟩ = some (.int .i64 a0_0) := (Ba BK236.out 0).trans rfl; have hcz14_1 : w13.cell? ⟨gb236, 1, none⟩ = some (.int .i64 a0_1) := (Ba BK236.out 1).trans rfl; have hcz14_2 : w13.cell? ⟨gb236, 2, none⟩ = some (.int .i64 a0_2) := (Ba BK236.out 2).trans rfl; have hcz14_3 : w13.cell? ⟨gb236, 3, none⟩ = some (.int .i64 a0_3) := (Ba BK236.out 3).trans rfl; have hcz14_4 : w13.cell? ⟨gb236, 4, none⟩ = some (.int .i64 a0_4) := (Ba BK236.out 4).trans rfl; have hcz14_5 : w13.cell? ⟨gb236, 5, none⟩ = some (.int .i64 a0_5) := (Ba BK236.out 5).trans rfl; have hcz14_6 : w13.cell? ⟨gb236, 6, none⟩ = some (.int .i64 a0_6) := (Ba BK236.out 6).trans rfl; have hfz14_0 := Bb BK236.out 0; have hfz14_1 := Bb BK236.out 1; have hfz14_2 := Bb BK236.out 2; have hfz14_3 := Bb BK236.out 3; have hfz14_4 := Bb BK236.out 4; have hfz14_5 := Bb BK236.out 5; have hfz14_6 := Bb BK236.out 6) | ((with_reducible refine gate_callee (f := 12) rfl ?_); refine goesL_ (some 8) rfl rfl Try.func12 (by kernel_rfl) rfl #[.agg #[.int .i64 a0_0, .int .i64 a0_1, .int .i64 a0_2, .int .i64 a0_3, .int .i64 a0_4, .int .i64 a0_5, .int .i64 a0_6]] rfl (by (try simp only [List.map_toArray, List.map_cons, List.map_nil]); first | done | rfl | (simp only [List.length_drop, List.length_take]; rfl)) ?_; (with_reducible refine (spec_l4Seconds.calls k a0_0 a0_1 a0_2 a0_3 a0_4 a0_5 a0_6 t238 _ A4.out).mono ?_); rintro e w15 ⟨rfl, hb⟩; refine ⟨_, rfl, ?_⟩; have n0_ := Aside0.mk (blk_below (g := gb236) (o := .cells #[.int .i64 a0_0, .int .i64 a0_1, .int .i64 a0_2, .int .i64 a0_3, .int .i64 a0_4, .int .i64 a0_5, .int .i64 a0_6] 24 (0, 0)) (by (with_reducible repeat (first | refine Bf ?_ _ | refine Bh ?_ | refine Bg ?_ _)); exact BK236.out) hb); have n1_ := Aside0.mk (below_step (by repeat (first | (with_reducible first | exact HB.out | apply Be | apply Bc | apply Bd | refine below_set ?_ GE236.out) | exact HB.out)) hb); clear BK236; clear HB; have BK236 := n0_; have HB := n1_; clear n0_ n1_; (try clear hb); (try clear hb2); (try clear hk); (try clear hi)))
  go_ret
  exact ⟨by first | rfl | (simp [errW_none, errW_some] <;> rfl) | (simp [*, errW_none, errW_some] <;> rfl), by repeat (first | (with_reducible first | exact HB.out | apply Be | apply Bc | apply Bd | refine below_set ?_ GE236.out) | exact HB.out)⟩
 replace c3 := Bool.eq_false_iff.mpr c3
 subst c3
 have H1 : (some false) = some r := by rw [if_neg (show ¬ (false = true) by decide)] at H; exact H
 clear H
 have H := H1
 clear H1
 obtain rfl := Option.some.inj H
 go_enter Try.func11, Try.ntmps11
 go_wp2_with (first | ((with_reducible refine gate_dst (N := 1) rfl ?_); refine box_event ?hg (N := 1) ?hd (cs := #[.int .i64 a0_0, .int .i64 a0_1, .int .i64 a0_2, .int .i64 a0_3, .int .i64 a0_4, .int .i64 a0_5, .int .i64 a0_6]) (t := 24) ?hr ?_; (case hd => rfl); (case hg => rfl); (case hr => first | (go_simp; done) | (go_simp; rfl)); intro gb236 hg w16 hbox hb; have n0_ := Aside0.mk (below_step (by repeat (first | (with_reducible first | exact HB.out | apply Be | apply Bc | apply Bd) | exact HB.out)) hb); have n1_ := Aside0.mk (hbox); have n2_ := Aside0.mk ((by rw [hg]; exact (below_size (by repeat (first | (with_reducible first | exact HB.out | apply Be | apply Bc | apply Bd) | exact HB.out))) : w.heap.size ≤ gb236)); have n3_ := Aside0.mk ((by rw [hg]; exact (below_size (by repeat (first | (with_reducible first | exact HB.out | apply Be | apply Bc | apply Bd) | exact HB.out))) : w.heap.size ≤ gb236)); clear HB; have HB := n0_; have BK236 := n1_; have GW236 := n2_; have GE236 := n3_; clear n0_ n1_ n2_ n3_; clear hb hbox hg; have hcz17_0 : w16.cell? ⟨gb236, 0, none⟩ = some (.int .i64 a0_0) := (Ba BK236.out 0).trans rfl; have hcz17_1 : w16.cell? ⟨gb236, 1, none⟩ = some (.int .i64 a0_1) := (Ba BK236.out 1).trans rfl; have hcz17_2 : w16.cell? ⟨gb236, 2, none⟩ = some (.int .i64 a0_2) := (Ba BK236.out 2).trans rfl; have hcz17_3 : w16.cell? ⟨gb236, 3, none⟩ = some (.int .i64 a0_3) := (Ba BK236.out 3).trans rfl; have hcz17_4 : w16.cell? ⟨gb236, 4, none⟩ = some (.int .i64 a0_4) := (Ba BK236.out 4).trans rfl; have hcz17_5 : w16.cell? ⟨gb236, 5, none⟩ = some (.int .i64 a0_5) := (Ba BK236.out 5).trans rfl; have hcz17_6 : w16.cell? ⟨gb236, 6, none⟩ = some (.int .i64 a0_6) := (Ba BK236.out 6).trans rfl; have hfz17_0 := Bb BK236.out 0; have hfz17_1 := Bb BK236.out 1; have hfz17_2 := Bb BK236.out 2; have hfz17_3 := Bb BK236.out 3; have hfz17_4 := Bb BK236.out 4; have hfz17_5 := Bb BK236.out 5; have hfz17_6 := Bb BK236.out 6) | ((with_reducible refine gate_callee (f := 20) rfl ?_); refine goesL_ (some 5) rfl rfl Try.func20 (by kernel_rfl) rfl #[.agg #[.int .i64 a0_0, .int .i64 a0_1, .int .i64 a0_2, .int .i64 a0_3, .int .i64 a0_4, .int .i64 a0_5, .int .i64 a0_6]] rfl (by (try simp only [List.map_toArray, List.map_cons, List.map_nil]); first | done | rfl | (simp only [List.length_drop, List.length_take]; rfl)) ?_; (with_reducible refine (spec_l4Fields.calls k a0_0 a0_1 a0_2 a0_3 a0_4 a0_5 a0_6 false _ A2.out).mono ?_); rintro e w18 ⟨rfl, hb⟩; refine ⟨_, rfl, ?_⟩; have n0_ := Aside0.mk (blk_below (g := gb236) (o := .cells #[.int .i64 a0_0, .int .i64 a0_1, .int .i64 a0_2, .int .i64 a0_3, .int .i64 a0_4, .int .i64 a0_5, .int .i64 a0_6] 24 (0, 0)) (by (with_reducible repeat (first | refine Bf ?_ _ | refine Bh ?_ | refine Bg ?_ _)); exact BK236.out) hb); have n1_ := Aside0.mk (below_step (by repeat (first | (with_reducible first | exact HB.out | apply Be | apply Bc | apply Bd | refine below_set ?_ GE236.out) | exact HB.out)) hb); clear BK236; clear HB; have BK236 := n0_; have HB := n1_; clear n0_ n1_; (try clear hb); (try clear hb2); (try clear hk); (try clear hi)))
 go_ret
 exact ⟨by first | rfl | (simp [errW_none, errW_some] <;> rfl) | (simp [*, errW_none, errW_some] <;> rfl), by repeat (first | (with_reducible first | exact HB.out | apply Be | apply Bc | apply Bd | refine below_set ?_ GE236.out) | exact HB.out)⟩

/-! ### spec_SecondsOf: function 6 -/
def spec_SecondsOf.f (k : Nat) (a0_0 : Int) (a0_1 : Int) (a0_2 : Int) (a0_3 : Int) (a0_4 : Int) (a0_5 : Int) (a0_6 : Int) : Option (Int × Bool) := (spec_DateValid.f k a0_0 a0_1 a0_2 a0_3 a0_4 a0_5 a0_6).bind fun t240 => (if t240 = true then ((spec_l4Seconds.f k a0_0 a0_1 a0_2 a0_3 a0_4 a0_5 a0_6).bind fun t241 => (some (t241, true))) else (some (0, false)))
theorem spec_SecondsOf.mono : ∀ a0 a1 a2 a3 a4 a5 a6 k, LeO (spec_SecondsOf.f k a0 a1 a2 a3 a4 a5 a6) (spec_SecondsOf.f (k + 1) a0 a1 a2 a3 a4 a5 a6) := by
 intro a0 a1 a2 a3 a4 a5 a6 k
 unfold spec_SecondsOf.f
 repeat' first
   | (with_reducible exact spec_DateValid.mono _ _ _ _ _ _ _ _)
   | (with_reducible exact spec_l4Seconds.mono _ _ _ _ _ _ _ _)
   | (with_reducible exact LeO.refl _)
   | (with_reducible exact LeO.none _)
   | (with_reducible refine LeO.ite ?_ ?_)
   | (with_reducible refine LeO.bind ?_ (fun _ => ?_))
set_option maxHeartbeats 8000000 in
set_option maxRecDepth 100000 in
theorem spec_SecondsOf.calls (k : Nat) (a0_0 : Int) (a0_1 : Int) (a0_2 : Int) (a0_3 : Int) (a0_4 : Int) (a0_5 : Int) (a0_6 : Int) (r1 : Int) (r2 : Bool) (w : World) (h : spec_SecondsOf.f k a0_0 a0_1 a0_2 a0_3 a0_4 a0_5 a0_6 = some (r1, r2)) :
  Calls Try.prog 6 #[.agg #[.int .i64 a0_0, .int .i64 a0_1, .int .i64 a0_2, .int .i64 a0_3, .int .i64 a0_4, .int .i64 a0_5, .int .i64 a0_6]] w fun e w' => e = .returned (.tuple #[.int .i64 r1, .bool r2]) ∧ Below w.heap.size w w' := by
 have hu24 := Try.underlying24
 have HB := Aside0.mk (Below.refl w.heap.size w)
 have H : ((spec_DateValid.f k a0_0 a0_1 a0_2 a0_3 a0_4 a0_5 a0_6).bind fun t240 => (if t240 = true then ((spec_l4Seconds.f k a0_0 a0_1 a0_2 a0_3 a0_4 a0_5 a0_6).bind fun t241 => (some (t241, true))) else (some (0, false)))) = some (r1, r2) := h
 clear h
 replace H := Option.bind_eq_some_iff.mp H
 obtain ⟨t240, A20, H⟩ := H
 replace H : (if t240 = true then ((spec_l4Seconds.f k a0_0 a0_1 a0_2 a0_3 a0_4 a0_5 a0_6).bind fun t241 => (some (t241, true))) else (some (0, false))) = some (r1, r2) := H
 have A2 := Aside0.mk A20
 clear A20
 by_cases c3 : t240 = true
 ·subst c3
  have H1 : ((spec_l4Seconds.f k a0_0 a0_1 a0_2 a0_3 a0_4 a0_5 a0_6).bind fun t241 => (some (t241, true))) = some (r1, r2) := by rw [if_pos rfl] at H; exact H
  clear H
  have H := H1
  clear H1
  replace H := Option.bind_eq_some_iff.mp H
  obtain ⟨t241, A40, H⟩ := H
  replace H : (some (t241, true)) = some (r1, r2) := H
  have A4 := Aside0.mk A40
  clear A40
  simp only [Option.some.injEq, Prod.mk.injEq] at H
  obtain ⟨rfl, rfl⟩ := H
  go_enter Try.func6, Try.ntmps6
  go_wp2_with (first | ((with_reducible refine gate_dst (N := 1) rfl ?_); refine box_event ?hg (N := 1) ?hd (cs := #[.int .i64 a0_0, .int .i64 a0_1, .int .i64 a0_2, .int .i64 a0_3, .int .i64 a0_4, .int .i64 a0_5, .int .i64 a0_6]) (t := 24) ?hr ?_; (case hd => rfl); (case hg => rfl); (case hr => first | (go_simp; done) | (go_simp; rfl)); intro gb239 hg w5 hbox hb; have n0_ := Aside0.mk (below_step (by repeat (first | (with_reducible first | exact HB.out | apply Be | apply Bc | apply Bd) | exact HB.out)) hb); have n1_ := Aside0.mk (hbox); have n2_ := Aside0.mk ((by rw [hg]; exact (below_size (by repeat (first | (with_reducible first | exact HB.out | apply Be | apply Bc | apply Bd) | exact HB.out))) : w.heap.size ≤ gb239)); have n3_ := Aside0.mk ((by rw [hg]; exact (below_size (by repeat (first | (with_reducible first | exact HB.out | apply Be | apply Bc | apply Bd) | exact HB.out))) : w.heap.size ≤ gb239)); clear HB; have HB := n0_; have BK239 := n1_; have GW239 := n2_; have GE239 := n3_; clear n0_ n1_ n2_ n3_; clear hb hbox hg; have hcz6_0 : w5.cell? ⟨gb239, 0, none⟩ = some (.int .i64 a0_0) := (Ba BK239.out 0).trans rfl; have hcz6_1 : w5.cell? ⟨gb239, 1, none⟩ = some (.int .i64 a0_1) := (Ba BK239.out 1).trans rfl; have hcz6_2 : w5.cell? ⟨gb239, 2, none⟩ = some (.int .i64 a0_2) := (Ba BK239.out 2).trans rfl; have hcz6_3 : w5.cell? ⟨gb239, 3, none⟩ = some (.int .i64 a0_3) := (Ba BK239.out 3).trans rfl; have hcz6_4 : w5.cell? ⟨gb239, 4, none⟩ = some (.int .i64 a0_4) := (Ba BK239.out 4).trans rfl; have hcz6_5 : w5.cell? ⟨gb239, 5, none⟩ = some (.int .i64 a0_5) := (Ba BK239.out 5).trans rfl; have hcz6_6 : w5.cell? ⟨gb239, 6, none⟩ = some (.int .i64 a0_6) := (Ba BK239.out 6).trans rfl; have hfz6_0 := Bb BK239.out 0; have hfz6_1 := Bb BK239.out 1; have hfz6_2 := Bb BK239.out 2; have hfz6_3 := Bb BK239.out 3; have hfz6_4 := Bb BK239.out 4; have hfz6_5 := Bb BK239.out 5; have hfz6_6 := Bb BK239.out 6) | ((with_reducible refine gate_callee (f := 11) rfl ?_); refine goesL_ (some 5) rfl rfl Try.func11 (by kernel_rfl) rfl #[.agg #[.int .i64 a0_0, .int .i64 a0_1, .int .i64 a0_2, .int .i64 a0_3, .int .i64 a0_4, .int .i64 a0_5, .int .i64 a0_6]] rfl (by (try simp only [List.map_toArray, List.map_cons, List.map_nil]); first | done | rfl | (simp only [List.length_drop, List.length_take]; rfl)) ?_; (with_reducible refine (spec_DateValid.calls k a0_0 a0_1 a0_2 a0_3 a0_4 a0_5 a0_6 true _ A2.out).mono ?_); rintro e w7 ⟨rfl, hb⟩; refine ⟨_, rfl, ?_⟩; have n0_ := Aside0.mk (blk_below (g := gb239) (o := .cells #[.int .i64 a0_0, .int .i64 a0_1, .int .i64 a0_2, .int .i64 a0_3, .int .i64 a0_4, .int .i64 a0_5, .int .i64 a0_6] 24 (0, 0)) (by (with_reducible repeat (first | refine Bf ?_ _ | refine Bh ?_ | refine Bg ?_ _)); exact BK239.out) hb); have n1_ := Aside0.mk (below_step (by repeat (first | (with_reducible first | exact HB.out | apply Be | apply Bc | apply Bd | refine below_set ?_ GE239.out) | exact HB.out)) hb); clear BK239; clear HB; have BK239 := n0_; have HB := n1_; clear n0_ n1_; (try clear hb); (try clear hb2); (try clear hk); (try clear hi); have hcz8_0 : w7.cell? ⟨gb239, 0, none⟩ = some (.int .i64 a0_0) := (Ba BK239.out 0).trans rfl; have hcz8_1 : w7.cell? ⟨gb239, 1, none⟩ = some (.int .i64 a0_1) := (Ba BK239.out 1).trans rfl; have hcz8_2 : w7.cell? ⟨gb239, 2, none⟩ = some (.int .i64 a0_2) := (Ba BK239.out 2).trans rfl; have hcz8_3 : w7.cell? ⟨gb239, 3, none⟩ = some (.int .i64 a0_3) := (Ba BK239.out 3).trans rfl; have hcz8_4 : w7.cell? ⟨gb239, 4, none⟩ = some (.int .i64 a0_4) := (Ba BK239.out 4).trans rfl; have hcz8_5 : w7.cell? ⟨gb239, 5, none⟩ = some (.int .i64 a0_5) := (Ba BK239.out 5).trans rfl; have hcz8_6 : w7.cell? ⟨gb239, 6, none⟩ = some (.int .i64 a0_6) := (Ba BK239.out 6).trans rfl; have hfz8_0 := Bb BK239.out 0; have hfz8_1 := Bb BK239.out 1; have hfz8_2 := Bb BK239.out 2; have hfz8_3 := Bb BK239.out 3; have hfz8_4 := Bb BK239.out 4; have hfz8_5 := Bb BK239.out 5; have hfz8_6 := Bb BK239.out 6) | ((with_reducible refine gate_callee (f := 12) rfl ?_); refine goesL_ (some 8) rfl rfl Try.func12 (by kernel_rfl) rfl #[.agg #[.int .i64 a0_0, .int .i64 a0_1, .int .i64 a0_2, .int .i64 a0_3, .int .i64 a0_4, .int .i64 a0_5, .int .i64 a0_6]] rfl (by (try simp only [List.map_toArray, List.map_cons, List.map_nil]); first | done | rfl | (simp only [List.length_drop, List.length_take]; rfl)) ?_; (with_reducible refine (spec_l4Seconds.calls k a0_0 a0_1 a0_2 a0_3 a0_4 a0_5 a0_6 t241 _ A4.out).mono ?_); rintro e w9 ⟨rfl, hb⟩; refine ⟨_, rfl, ?_⟩; have n0_ := Aside0.mk (blk_below (g := gb239) (o := .cells #[.int .i64 a0_0, .int .i64 a0_1, .int .i64 a0_2, .int .i64 a0_3, .int .i64 a0_4, .int .i64 a0_5, .int .i64 a0_6] 24 (0, 0)) (by (with_reducible repeat (first | refine Bf ?_ _ | refine Bh ?_ | refine Bg ?_ _)); exact BK239.out) hb); have n1_ := Aside0.mk (below_step (by repeat (first | (with_reducible first | exact HB.out | apply Be | apply Bc | apply Bd | refine below_set ?_ GE239.out) | exact HB.out)) hb); clear BK239; clear HB; have BK239 := n0_; have HB := n1_; clear n0_ n1_; (try clear hb); (try clear hb2); (try clear hk); (try clear hi)))
  go_ret2
  exact ⟨by first | rfl | (simp [errW_none, errW_some] <;> rfl) | (simp [*, errW_none, errW_some] <;> rfl), by repeat (first | (with_reducible first | exact HB.out | apply Be | apply Bc | apply Bd | refine below_set ?_ GE239.out) | exact HB.out)⟩
 replace c3 := Bool.eq_false_iff.mpr c3
 subst c3
 have H1 : (some (0, false)) = some (r1, r2) := by rw [if_neg (show ¬ (false = true) by decide)] at H; exact H
 clear H
 have H := H1
 clear H1
 simp only [Option.some.injEq, Prod.mk.injEq] at H
 obtain ⟨rfl, rfl⟩ := H
 go_enter Try.func6, Try.ntmps6
 go_wp2_with (first | ((with_reducible refine gate_dst (N := 1) rfl ?_); refine box_event ?hg (N := 1) ?hd (cs := #[.int .i64 a0_0, .int .i64 a0_1, .int .i64 a0_2, .int .i64 a0_3, .int .i64 a0_4, .int .i64 a0_5, .int .i64 a0_6]) (t := 24) ?hr ?_; (case hd => rfl); (case hg => rfl); (case hr => first | (go_simp; done) | (go_simp; rfl)); intro gb239 hg w10 hbox hb; have n0_ := Aside0.mk (below_step (by repeat (first | (with_reducible first | exact HB.out | apply Be | apply Bc | apply Bd) | exact HB.out)) hb); have n1_ := Aside0.mk (hbox); have n2_ := Aside0.mk ((by rw [hg]; exact (below_size (by repeat (first | (with_reducible first | exact HB.out | apply Be | apply Bc | apply Bd) | exact HB.out))) : w.heap.size ≤ gb239)); have n3_ := Aside0.mk ((by rw [hg]; exact (below_size (by repeat (first | (with_reducible first | exact HB.out | apply Be | apply Bc | apply Bd) | exact HB.out))) : w.heap.size ≤ gb239)); clear HB; have HB := n0_; have BK239 := n1_; have GW239 := n2_; have GE239 := n3_; clear n0_ n1_ n2_ n3_; clear hb hbox hg; have hcz11_0 : w10.cell? ⟨gb239, 0, none⟩ = some (.int .i64 a0_0) := (Ba BK239.out 0).trans rfl; have hcz11_1 : w10.cell? ⟨gb239, 1, none⟩ = some (.int .i64 a0_1) := (Ba BK239.out 1).trans rfl; have hcz11_2 : w10.cell? ⟨gb239, 2, none⟩ = some (.int .i64 a0_2) := (Ba BK239.out 2).trans rfl; have hcz11_3 : w10.cell? ⟨gb239, 3, none⟩ = some (.int .i64 a0_3) := (Ba BK239.out 3).trans rfl; have hcz11_4 : w10.cell? ⟨gb239, 4, none⟩ = some (.int .i64 a0_4) := (Ba BK239.out 4).trans rfl; have hcz11_5 : w10.cell? ⟨gb239, 5, none⟩ = some (.int .i64 a0_5) := (Ba BK239.out 5).trans rfl; have hcz11_6 : w10.cell? ⟨gb239, 6, none⟩ = some (.int .i64 a0_6) := (Ba BK239.out 6).trans rfl; have hfz11_0 := Bb BK239.out 0; have hfz11_1 := Bb BK239.out 1; have hfz11_2 := Bb BK239.out 2; have hfz11_3 := Bb BK239.out 3; have hfz11_4 := Bb BK239.out 4; have hfz11_5 := Bb BK239.out 5; have hfz11_6 := Bb BK239.out 6) | ((with_reducible refine gate_callee (f := 11) rfl ?_); refine goesL_ (some 5) rfl rfl Try.func11 (by kernel_rfl) rfl #[.agg #[.int .i64 a0_0, .int .i64 a0_1, .int .i64 a0_2, .int .i64 a0_3, .int .i64 a0_4, .int .i64 a0_5, .int .i64 a0_6]] rfl (by (try simp only [List.map_toArray, List.map_cons, List.map_nil]); first | done | rfl | (simp only [List.length_drop, List.length_take]; rfl)) ?_; (with_reducible refine (spec_DateValid.calls k a0_0 a0_1 a0_2 a0_3 a0_4 a0_5 a0_6 false _ A2.out).mono ?_); rintro e w12 ⟨rfl, hb⟩; refine ⟨_, rfl, ?_⟩; have n0_ := Aside0.mk (blk_below (g := gb239) (o := .cells #[.int .i64 a0_0, .int .i64 a0_1, .int .i64 a0_2, .int .i64 a0_3, .int .i64 a0_4, .int .i64 a0_5, .int .i64 a0_6] 24 (0, 0)) (by (with_reducible repeat (first | refine Bf ?_ _ | refine Bh ?_ | refine Bg ?_ _)); exact BK239.out) hb); have n1_ := Aside0.mk (below_step (by repeat (first | (with_reducible first | exact HB.out | apply Be | apply Bc | apply Bd | refine below_set ?_ GE239.out) | exact HB.out)) hb); clear BK239; clear HB; have BK239 := n0_; have HB := n1_; clear n0_ n1_; (try clear hb); (try clear hb2); (try clear hk); (try clear hi)))
 go_ret2
 exact ⟨by first | rfl | (simp [errW_none, errW_some] <;> rfl) | (simp [*, errW_none, errW_some] <;> rfl), by repeat (first | (with_reducible first | exact HB.out | apply Be | apply Bc | apply Bd | refine below_set ?_ GE239.out) | exact HB.out)⟩

/-! ### impl_DateOf: function 7 -/
mutual
def impl_DateOf.j0 : Nat → Int → Int → Bool → Option (Int × Int × Int × Int × Int × Int × Int × Bool)
 | 0, _, _, _ => none
 | k + 1, x0, x1, x17 => if x17 = true then (some (0, 0, 0, 0, 0, 0, 0, false)) else (if (wrap64 (x0 + (wrap64 (x1 * 60)))) < 0 then (some (0, 0, 0, 0, 0, 0, 0, false)) else (impl_DateOf.l0 k (wrap64 (Int.tdiv (wrap64 (x0 + (wrap64 (x1 * 60)))) 86400)) 1970 1 0 (wrap64 (Int.tdiv (Int.tmod (wrap64 (x0 + (wrap64 (x1 * 60)))) 86400) 3600)) (Int.tmod (wrap64 (Int.tdiv (Int.tmod (wrap64 (x0 + (wrap64 (x1 * 60)))) 86400) 60)) 60) (Int.tmod (wrap64 (x0 + (wrap64 (x1 * 60)))) 60) x1))
def impl_DateOf.l0 : Nat → Int → Int → Int → Int → Int → Int → Int → Int → Option (Int × Int × Int × Int × Int × Int × Int × Bool)
 | 0, _, _, _, _, _, _, _, _ => none
 | k + 1, x7, x246000, x246001, x246002, x246003, x246004, x246005, x246006 => if x246000 ≤ 2099 then ((impl_DaysOf.f k x246000 x246001).bind fun t246 => (impl_DateOf.j2 k x7 (decide (x7 ≥ t246)) x246000 x246001 x246002 x246003 x246004 x246005 x246006)) else (impl_DateOf.j2 k x7 false x246000 x246001 x246002 x246003 x246004 x246005 x246006)
def impl_DateOf.j2 : Nat → Int → Bool → Int → Int → Int → Int → Int → Int → Int → Option (Int × Int × Int × Int × Int × Int × Int × Bool)
 | 0, _, _, _, _, _, _, _, _, _ => none
 | k + 1, x7, x50, x246000, x246001, x246002, x246003, x246004, x246005, x246006 => if x50 = true then ((impl_DaysOf.f k x246000 x246001).bind fun t247 => (if (wrap64 (x246001 + 1)) > 12 then (impl_DateOf.l0 k (wrap64 (x7 - t247)) (wrap64 (x246000 + 1)) 1 x246002 x246003 x246004 x246005 x246006) else (impl_DateOf.l0 k (wrap64 (x7 - t247)) x246000 (wrap64 (x246001 + 1)) x246002 x246003 x246004 x246005 x246006))) else ((impl_DateValid.f k x246000 x246001 (wrap64 (x7 + 1)) x246003 x246004 x246005 x246006).bind fun t248 => (if t248 = true then (some (x246000, x246001, wrap64 (x7 + 1), x246003, x246004, x246005, x246006, true)) else (some (0, 0, 0, 0, 0, 0, 0, false))))
end
def impl_DateOf.f (k : Nat) (a0 : Int) (a1 : Int) : Option (Int × Int × Int × Int × Int × Int × Int × Bool) := (impl_between.f a0 0 4102444799).bind fun t243 => (if t243 = true then ((impl_isZone.f a1).bind fun t244 => (impl_DateOf.j0 k a0 a1 (!t244))) else (impl_DateOf.j0 k a0 a1 true))
theorem impl_DateOf.mono_l : ∀ k, (∀ y0 y1 y2, LeO (impl_DateOf.j0 k y0 y1 y2) (impl_DateOf.j0 (k + 1) y0 y1 y2)) ∧ (∀ y0 y1 y2 y3 y4 y5 y6 y7, LeO (impl_DateOf.l0 k y0 y1 y2 y3 y4 y5 y6 y7) (impl_DateOf.l0 (k + 1) y0 y1 y2 y3 y4 y5 y6 y7)) ∧ (∀ y0 y1 y2 y3 y4 y5 y6 y7 y8, LeO (impl_DateOf.j2 k y0 y1 y2 y3 y4 y5 y6 y7 y8) (impl_DateOf.j2 (k + 1) y0 y1 y2 y3 y4 y5 y6 y7 y8))
 | 0 => ⟨fun _ _ _ r h => by simp [impl_DateOf.j0] at h, fun _ _ _ _ _ _ _ _ r h => by simp [impl_DateOf.l0] at h, fun _ _ _ _ _ _ _ _ _ r h => by simp [impl_DateOf.j2] at h⟩
 | k + 1 => by
  obtain ⟨ih0, ih1, ih2⟩ := impl_DateOf.mono_l k
  refine ⟨?_, ?_, ?_⟩
  ·intro y0 y1 y2
   unfold impl_DateOf.j0
   repeat' first
   | (with_reducible exact ih0 _ _ _)
   | (with_reducible exact ih1 _ _ _ _ _ _ _ _)
   | (with_reducible exact ih2 _ _ _ _ _ _ _ _ _)
   | (with_reducible exact impl_DateValid.mono _ _ _ _ _ _ _ _)
   | (with_reducible exact impl_DaysOf.mono _ _ _)
   | (with_reducible exact LeO.refl _)
   | (with_reducible exact LeO.none _)
   | (with_reducible refine LeO.ite ?_ ?_)
   | (with_reducible refine LeO.bind ?_ (fun _ => ?_))
  ·intro y0 y1 y2 y3 y4 y5 y6 y7
   unfold impl_DateOf.l0
   repeat' first
   | (with_reducible exact ih0 _ _ _)
   | (with_reducible exact ih1 _ _ _ _ _ _ _ _)
   | (with_reducible exact ih2 _ _ _ _ _ _ _ _ _)
   | (with_reducible exact impl_DateValid.mono _ _ _ _ _ _ _ _)
   | (with_reducible exact impl_DaysOf.mono _ _ _)
   | (with_reducible exact LeO.refl _)
   | (with_reducible exact LeO.none _)
   | (with_reducible refine LeO.ite ?_ ?_)
   | (with_reducible refine LeO.bind ?_ (fun _ => ?_))
  intro y0 y1 y2 y3 y4 y5 y6 y7 y8
  unfold impl_DateOf.j2
  repeat' first
  | (with_reducible exact ih0 _ _ _)
  | (with_reducible exact ih1 _ _ _ _ _ _ _ _)
  | (with_reducible exact ih2 _ _ _ _ _ _ _ _ _)
  | (with_reducible exact impl_DateValid.mono _ _ _ _ _ _ _ _)
  | (with_reducible exact impl_DaysOf.mono _ _ _)
  | (with_reducible exact LeO.refl _)
  | (with_reducible exact LeO.none _)
  | (with_reducible refine LeO.ite ?_ ?_)
  | (with_reducible refine LeO.bind ?_ (fun _ => ?_))
theorem impl_DateOf.mono : ∀ a0 a1 k, LeO (impl_DateOf.f k a0 a1) (impl_DateOf.f (k + 1) a0 a1) := by
 intro a0 a1 k
 obtain ⟨ih0, ih1, ih2⟩ := impl_DateOf.mono_l k
 unfold impl_DateOf.f
 repeat' first
   | (with_reducible exact ih0 _ _ _)
   | (with_reducible exact ih1 _ _ _ _ _ _ _ _)
   | (with_reducible exact ih2 _ _ _ _ _ _ _ _ _)
   | (with_reducible exact impl_DateValid.mono _ _ _ _ _ _ _ _)
   | (with_reducible exact impl_DaysOf.mono _ _ _)
   | (with_reducible exact LeO.refl _)
   | (with_reducible exact LeO.none _)
   | (with_reducible refine LeO.ite ?_ ?_)
   | (with_reducible refine LeO.bind ?_ (fun _ => ?_))
set_option maxHeartbeats 8000000 in
set_option maxRecDepth 100000 in
theorem impl_DateOf.calls (k : Nat) (a0 : Int) (a1 : Int) (r1 : Int) (r2 : Int) (r3 : Int) (r4 : Int) (r5 : Int) (r6 : Int) (r7 : Int) (r8 : Bool) (w : World) (h : impl_DateOf.f k a0 a1 = some (r1, r2, r3, r4, r5, r6, r7, r8)) :
  Calls Try.prog 7 #[.int .i64 a0, .int .i64 a1] w fun e w' => e = .returned (.tuple #[.agg #[.int .i64 r1, .int .i64 r2, .int .i64 r3, .int .i64 r4, .int .i64 r5, .int .i64 r6, .int .i64 r7], .bool r8]) ∧ Below w.heap.size w w' := by
 have hu24 := Try.underlying24
 have HB := Aside0.mk (Below.refl w.heap.size w)
 have H : ((impl_between.f a0 0 4102444799).bind fun t243 => (if t243 = true then ((impl_isZone.f a1).bind fun t244 => (impl_DateOf.j0 k a0 a1 (!t244))) else (impl_DateOf.j0 k a0 a1 true))) = some (r1, r2, r3, r4, r5, r6, r7, r8) := h
 clear h
 have HC3 := Aside0.mk H
 clear H
 go_enter Try.func7, Try.ntmps7
 go_upto_region 1 with (first | ((with_reducible refine gate_dst (N := 4) rfl ?_); refine box_event ?hg (N := 4) ?hd (cs := #[.int .i64 0, .int .i64 0, .int .i64 0, .int .i64 0, .int .i64 0, .int .i64 0, .int .i64 0]) (t := 24) ?hr ?_; (case hd => rfl); (case hg => rfl); (case hr => first | (go_simp; done) | (go_simp; rfl)); intro gb242 hg w4 hbox hb; have n0_ := Aside0.mk (below_step (by repeat (first | (with_reducible first | exact HB.out | apply Be | apply Bc | apply Bd) | exact HB.out)) hb); have n1_ := Aside0.mk (hbox); have n2_ := Aside0.mk ((by rw [hg]; exact (below_size (by repeat (first | (with_reducible first | exact HB.out | apply Be | apply Bc | apply Bd) | exact HB.out))) : w.heap.size ≤ gb242)); have n3_ := Aside0.mk ((by rw [hg]; exact (below_size (by repeat (first | (with_reducible first | exact HB.out | apply Be | apply Bc | apply Bd) | exact HB.out))) : w.heap.size ≤ gb242)); clear HB; have HB := n0_; have BK242 := n1_; have GW242 := n2_; have GE242 := n3_; clear n0_ n1_ n2_ n3_; clear hb hbox hg))
 (try simp only [Act.put, List.setIfInBounds_toArray, List.set_cons_zero, List.set_cons_succ])
 go_cut [17] (fun v17 wc => ∃ (kq : Nat) (x17_2 : Bool), v17 = .bool x17_2 ∧ Aside0 (impl_DateOf.j0 kq a0 a1 x17_2 = some (r1, r2, r3, r4, r5, r6, r7, r8)) ∧ Aside0 (kq ≤ k) ∧ Aside0 (wc.heap[gb242]? = some (.cells #[.int .i64 0, .int .i64 0, .int .i64 0, .int .i64 0, .int .i64 0, .int .i64 0, .int .i64 0] 24 (0, 0))) ∧ Aside0 (Below w.heap.size w wc))
 case first =>
  have H := HC3.out
  clear HC3
  replace H := Option.bind_eq_some_iff.mp H
  obtain ⟨t243, A50, H⟩ := H
  replace H : (if t243 = true then ((impl_isZone.f a1).bind fun t244 => (impl_DateOf.j0 k a0 a1 (!t244))) else (impl_DateOf.j0 k a0 a1 true)) = some (r1, r2, r3, r4, r5, r6, r7, r8) := H
  have A5 := Aside0.mk A50
  clear A50
  by_cases c6 : t243 = true
  ·subst c6
   have H1 : ((impl_isZone.f a1).bind fun t244 => (impl_DateOf.j0 k a0 a1 (!t244))) = some (r1, r2, r3, r4, r5, r6, r7, r8) := by rw [if_pos rfl] at H; exact H
   clear H; have H := H1; clear H1; replace H := Option.bind_eq_some_iff.mp H
   obtain ⟨t244, A70, H⟩ := H
   replace H : (impl_DateOf.j0 k a0 a1 (!t244)) = some (r1, r2, r3, r4, r5, r6, r7, r8) := H
   have A7 := Aside0.mk A70; clear A70
   have H' := Aside0.mk H
   clear H
   go_wp2_with (first | ((with_reducible refine gate_callee (f := 13) rfl ?_); refine goesL_ (some 11) rfl rfl Try.func13 (by kernel_rfl) rfl #[.int .i64 a0, .int .i64 0, .int .i64 4102444799] rfl (by (try simp only [List.map_toArray, List.map_cons, List.map_nil]); first | done | rfl | (simp only [List.length_drop, List.length_take]; rfl)) ?_; (with_reducible refine (impl_between.calls a0 0 4102444799 true _ A5.out).mono ?_); rintro e w' ⟨rfl, ⟨nd, rfl⟩⟩; refine ⟨_, rfl, ?_⟩) | (go_at_call 14; (with_reducible refine (impl_isZone.calls a1 t244 _ A7.out).mono ?_); rintro e w' ⟨rfl, ⟨nd, rfl⟩⟩))
   go_meet
   case rel => exact ⟨_, (!t244), (by first | rfl | (simp; done) | (simp [*]; done)), H', ⟨by first | omega | exact Nat.le_refl _⟩, ⟨by (with_reducible repeat (first | refine Bf ?_ _ | refine Bh ?_ | refine Bg ?_ _)); exact BK242.out⟩, ⟨by repeat (first | (with_reducible first | exact HB.out | apply Be | apply Bc | apply Bd | refine below_set ?_ GE242.out) | exact HB.out)⟩⟩
  replace c6 := Bool.eq_false_iff.mpr c6
  subst c6
  have H1 : (impl_DateOf.j0 k a0 a1 true) = some (r1, r2, r3, r4, r5, r6, r7, r8) := by rw [if_neg (show ¬ (false = true) by decide)] at H; exact H
  clear H; have H := H1; clear H1
  have H' := Aside0.mk H
  clear H
  go_wp2_with (first | ((with_reducible refine gate_callee (f := 13) rfl ?_); refine goesL_ (some 11) rfl rfl Try.func13 (by kernel_rfl) rfl #[.int .i64 a0, .int .i64 0, .int .i64 4102444799] rfl (by (try simp only [List.map_toArray, List.map_cons, List.map_nil]); first | done | rfl | (simp only [List.length_drop, List.length_take]; rfl)) ?_; (with_reducible refine (impl_between.calls a0 0 4102444799 false _ A5.out).mono ?_); rintro e w' ⟨rfl, ⟨nd, rfl⟩⟩; refine ⟨_, rfl, ?_⟩))
  go_meet
  case rel => exact ⟨_, (true), (by first | rfl | (simp; done) | (simp [*]; done)), H', ⟨by first | omega | exact Nat.le_refl _⟩, ⟨by (with_reducible repeat (first | refine Bf ?_ _ | refine Bh ?_ | refine Bg ?_ _)); exact BK242.out⟩, ⟨by repeat (first | (with_reducible first | exact HB.out | apply Be | apply Bc | apply Bd | refine below_set ?_ GE242.out) | exact HB.out)⟩⟩
 case rest =>
  clear HC3
  try clear c1
  try clear p2
  try clear c6
  try clear c7
  obtain ⟨kq, x17_2, rfl, HA, HJ2, BK242, HB⟩ := hcut
  cases kq with
  | zero => exact absurd HA.out (by simp [impl_DateOf.j0])
  | succ kj2 =>
   have H := HA.out; clear HA
   simp only [impl_DateOf.j0] at H
   by_cases c8 : x17_2 = true
   ·subst c8
    have H1 : (some (0, 0, 0, 0, 0, 0, 0, false)) = some (r1, r2, r3, r4, r5, r6, r7, r8) := by rw [if_pos rfl] at H; exact H
    clear H; have H := H1; clear H1
    simp only [Option.some.injEq, Prod.mk.injEq] at H
    obtain ⟨rfl, rfl, rfl, rfl, rfl, rfl, rfl, rfl⟩ := H
    have hcz9_0 : wc.cell? ⟨gb242, 0, none⟩ = some (.int .i64 0) := (Ba BK242.out 0).trans rfl
    have hcz9_1 : wc.cell? ⟨gb242, 1, none⟩ = some (.int .i64 0) := (Ba BK242.out 1).trans rfl
    have hcz9_2 : wc.cell? ⟨gb242, 2, none⟩ = some (.int .i64 0) := (Ba BK242.out 2).trans rfl
    have hcz9_3 : wc.cell? ⟨gb242, 3, none⟩ = some (.int .i64 0) := (Ba BK242.out 3).trans rfl
    have hcz9_4 : wc.cell? ⟨gb242, 4, none⟩ = some (.int .i64 0) := (Ba BK242.out 4).trans rfl
    have hcz9_5 : wc.cell? ⟨gb242, 5, none⟩ = some (.int .i64 0) := (Ba BK242.out 5).trans rfl
    have hcz9_6 : wc.cell? ⟨gb242, 6, none⟩ = some (.int .i64 0) := (Ba BK242.out 6).trans rfl
    have hfz9_0 := Bb BK242.out 0; have hfz9_1 := Bb BK242.out 1; have hfz9_2 := Bb BK242.out 2; have hfz9_3 := Bb BK242.out 3; have hfz9_4 := Bb BK242.out 4; have hfz9_5 := Bb BK242.out 5; have hfz9_6 := Bb BK242.out 6
    go_wp2
    refine bodyPost_ret (results_ct rfl _ _ gb242 24 #[.int .i64 0, .int .i64 0, .int .i64 0, .int .i64 0, .int .i64 0, .int .i64 0, .int .i64 0] (0, 0) _ rfl (by (with_reducible repeat (first | refine Bf ?_ _ | refine Bh ?_ | refine Bg ?_ _)); refine blk_put (cs := #[.int .i64 0, .int .i64 0, .int .i64 0, .int .i64 0, .int .i64 0, .int .i64 0, .int .i64 0]) ?_ 6 _ rfl; (with_reducible repeat (first | refine Bf ?_ _ | refine Bh ?_ | refine Bg ?_ _)); refine blk_put (cs := #[.int .i64 0, .int .i64 0, .int .i64 0, .int .i64 0, .int .i64 0, .int .i64 0, .int .i64 0]) ?_ 5 _ rfl; (with_reducible repeat (first | refine Bf ?_ _ | refine Bh ?_ | refine Bg ?_ _)); refine blk_put (cs := #[.int .i64 0, .int .i64 0, .int .i64 0, .int .i64 0, .int .i64 0, .int .i64 0, .int .i64 0]) ?_ 4 _ rfl; (with_reducible repeat (first | refine Bf ?_ _ | refine Bh ?_ | refine Bg ?_ _)); refine blk_put (cs := #[.int .i64 0, .int .i64 0, .int .i64 0, .int .i64 0, .int .i64 0, .int .i64 0, .int .i64 0]) ?_ 3 _ rfl; (with_reducible repeat (first | refine Bf ?_ _ | refine Bh ?_ | refine Bg ?_ _)); refine blk_put (cs := #[.int .i64 0, .int .i64 0, .int .i64 0, .int .i64 0, .int .i64 0, .int .i64 0, .int .i64 0]) ?_ 2 _ rfl; (with_reducible repeat (first | refine Bf ?_ _ | refine Bh ?_ | refine Bg ?_ _)); refine blk_put (cs := #[.int .i64 0, .int .i64 0, .int .i64 0, .int .i64 0, .int .i64 0, .int .i64 0, .int .i64 0]) ?_ 1 _ rfl; (with_reducible repeat (first | refine Bf ?_ _ | refine Bh ?_ | refine Bg ?_ _)); refine blk_put (cs := #[.int .i64 0, .int .i64 0, .int .i64 0, .int .i64 0, .int .i64 0, .int .i64 0, .int .i64 0]) ?_ 0 _ rfl; (with_reducible repeat (first | refine Bf ?_ _ | refine Bh ?_ | refine Bg ?_ _)); exact BK242.out) Try.underlying24 rfl (by kernel_rfl)) rfl ?_
    exact ⟨by first | rfl | (simp [errW_none, errW_some] <;> rfl) | (simp [*, errW_none, errW_some] <;> rfl), by repeat (first | (with_reducible first | exact HB.out | apply Be | apply Bc | apply Bd | refine below_set ?_ GE242.out) | exact HB.out)⟩
   replace c8 := Bool.eq_false_iff.mpr c8
   subst c8
   have H1 : (if (wrap64 (a0 + (wrap64 (a1 * 60)))) < 0 then (some (0, 0, 0, 0, 0, 0, 0, false)) else (impl_DateOf.l0 kj2 (wrap64 (Int.tdiv (wrap64 (a0 + (wrap64 (a1 * 60)))) 86400)) 1970 1 0 (wrap64 (Int.tdiv (Int.tmod (wrap64 (a0 + (wrap64 (a1 * 60)))) 86400) 3600)) (Int.tmod (wrap64 (Int.tdiv (Int.tmod (wrap64 (a0 + (wrap64 (a1 * 60)))) 86400) 60)) 60) (Int.tmod (wrap64 (a0 + (wrap64 (a1 * 60)))) 60) a1)) = some (r1, r2, r3, r4, r5, r6, r7, r8) := by rw [if_neg (show ¬ (false = true) by decide)] at H; exact H
   clear H; have H := H1; clear H1
   by_cases c10 : (wrap64 (a0 + (wrap64 (a1 * 60)))) < 0
   ·rw [if_pos c10] at H
    have c10b0 : decide ((wrap64 (a0 + (wrap64 (a1 * 60)))) < 0) = true := decide_eq_true c10
    clear c10
    simp only [Option.some.injEq, Prod.mk.injEq] at H
    obtain ⟨rfl, rfl, rfl, rfl, rfl, rfl, rfl, rfl⟩ := H
    have hcz11_0 : wc.cell? ⟨gb242, 0, none⟩ = some (.int .i64 0) := (Ba BK242.out 0).trans rfl
    have hcz11_1 : wc.cell? ⟨gb242, 1, none⟩ = some (.int .i64 0) := (Ba BK242.out 1).trans rfl
    have hcz11_2 : wc.cell? ⟨gb242, 2, none⟩ = some (.int .i64 0) := (Ba BK242.out 2).trans rfl
    have hcz11_3 : wc.cell? ⟨gb242, 3, none⟩ = some (.int .i64 0) := (Ba BK242.out 3).trans rfl
    have hcz11_4 : wc.cell? ⟨gb242, 4, none⟩ = some (.int .i64 0) := (Ba BK242.out 4).trans rfl
    have hcz11_5 : wc.cell? ⟨gb242, 5, none⟩ = some (.int .i64 0) := (Ba BK242.out 5).trans rfl
    have hcz11_6 : wc.cell? ⟨gb242, 6, none⟩ = some (.int .i64 0) := (Ba BK242.out 6).trans rfl
    have hfz11_0 := Bb BK242.out 0; have hfz11_1 := Bb BK242.out 1; have hfz11_2 := Bb BK242.out 2; have hfz11_3 := Bb BK242.out 3; have hfz11_4 := Bb BK242.out 4; have hfz11_5 := Bb BK242.out 5; have hfz11_6 := Bb BK242.out 6
    go_wp2
    refine bodyPost_ret (results_ct rfl _ _ gb242 24 #[.int .i64 0, .int .i64 0, .int .i64 0, .int .i64 0, .int .i64 0, .int .i64 0, .int .i64 0] (0, 0) _ rfl (by (with_reducible repeat (first | refine Bf ?_ _ | refine Bh ?_ | refine Bg ?_ _)); refine blk_put (cs := #[.int .i64 0, .int .i64 0, .int .i64 0, .int .i64 0, .int .i64 0, .int .i64 0, .int .i64 0]) ?_ 6 _ rfl; (with_reducible repeat (first | refine Bf ?_ _ | refine Bh ?_ | refine Bg ?_ _)); refine blk_put (cs := #[.int .i64 0, .int .i64 0, .int .i64 0, .int .i64 0, .int .i64 0, .int .i64 0, .int .i64 0]) ?_ 5 _ rfl; (with_reducible repeat (first | refine Bf ?_ _ | refine Bh ?_ | refine Bg ?_ _)); refine blk_put (cs := #[.int .i64 0, .int .i64 0, .int .i64 0, .int .i64 0, .int .i64 0, .int .i64 0, .int .i64 0]) ?_ 4 _ rfl; (with_reducible repeat (first | refine Bf ?_ _ | refine Bh ?_ | refine Bg ?_ _)); refine blk_put (cs := #[.int .i64 0, .int .i64 0, .int .i64 0, .int .i64 0, .int .i64 0, .int .i64 0, .int .i64 0]) ?_ 3 _ rfl; (with_reducible repeat (first | refine Bf ?_ _ | refine Bh ?_ | refine Bg ?_ _)); refine blk_put (cs := #[.int .i64 0, .int .i64 0, .int .i64 0, .int .i64 0, .int .i64 0, .int .i64 0, .int .i64 0]) ?_ 2 _ rfl; (with_reducible repeat (first | refine Bf ?_ _ | refine Bh ?_ | refine Bg ?_ _)); refine blk_put (cs := #[.int .i64 0, .int .i64 0, .int .i64 0, .int .i64 0, .int .i64 0, .int .i64 0, .int .i64 0]) ?_ 1 _ rfl; (with_reducible repeat (first | refine Bf ?_ _ | refine Bh ?_ | refine Bg ?_ _)); refine blk_put (cs := #[.int .i64 0, .int .i64 0, .int .i64 0, .int .i64 0, .int .i64 0, .int .i64 0, .int .i64 0]) ?_ 0 _ rfl; (with_reducible repeat (first | refine Bf ?_ _ | refine Bh ?_ | refine Bg ?_ _)); exact BK242.out) Try.underlying24 rfl (by kernel_rfl)) rfl ?_
    exact ⟨by first | rfl | (simp [errW_none, errW_some] <;> rfl) | (simp [*, errW_none, errW_some] <;> rfl), by repeat (first | (with_reducible first | exact HB.out | apply Be | apply Bc | apply Bd | refine below_set ?_ GE242.out) | exact HB.out)⟩
   rw [if_neg c10] at H
   have c10b0 : decide ((wrap64 (a0 + (wrap64 (a1 * 60)))) < 0) = false := decide_eq_false c10
   clear c10
   have H' := Aside0.mk H
   clear H
   go_wp2_with (first | ((with_reducible refine gate_dst (N := 9) rfl ?_); refine box_event ?hg (N := 9) ?hd (cs := #[.int .i64 0, .int .i64 0, .int .i64 0, .int .i64 0, .int .i64 0, .int .i64 0, .int .i64 0]) (t := 24) ?hr ?_; (case hd => rfl); (case hg => rfl); (case hr => first | (go_simp; done) | (go_simp; rfl)); intro gb245 hg w12 hbox hb; have n0_ := Aside0.mk (blk_below (g := gb242) (o := .cells #[.int .i64 0, .int .i64 0, .int .i64 0, .int .i64 0, .int .i64 0, .int .i64 0, .int .i64 0] 24 (0, 0)) (by (with_reducible repeat (first | refine Bf ?_ _ | refine Bh ?_ | refine Bg ?_ _)); exact BK242.out) hb); have n1_ := Aside0.mk (below_step (by repeat (first | (with_reducible first | exact HB.out | apply Be | apply Bc | apply Bd | refine below_set ?_ GE242.out) | exact HB.out)) hb); have n2_ := Aside0.mk (hbox); have n3_ := Aside0.mk ((by rw [hg]; exact (below_size (by repeat (first | (with_reducible first | exact HB.out | apply Be | apply Bc | apply Bd | refine below_set ?_ GE242.out) | exact HB.out))) : w.heap.size ≤ gb245)); have n4_ := Aside0.mk ((by rw [hg]; exact (below_size (by repeat (first | (with_reducible first | exact HB.out | apply Be | apply Bc | apply Bd | refine below_set ?_ GE242.out) | exact HB.out))) : w.heap.size ≤ gb245)); have n5_ := Aside0.mk ((by rw [hg]; exact Nat.ne_of_lt (blk_lt (g := gb242) (o := .cells #[.int .i64 0, .int .i64 0, .int .i64 0, .int .i64 0, .int .i64 0, .int .i64 0, .int .i64 0] 24 (0, 0)) (by (with_reducible repeat (first | refine Bf ?_ _ | refine Bh ?_ | refine Bg ?_ _)); exact BK242.out)) : gb242 ≠ gb245)); have n6_ := Aside0.mk ((by rw [hg]; exact Nat.ne_of_gt (blk_lt (g := gb242) (o := .cells #[.int .i64 0, .int .i64 0, .int .i64 0, .int .i64 0, .int .i64 0, .int .i64 0, .int .i64 0] 24 (0, 0)) (by (with_reducible repeat (first | refine Bf ?_ _ | refine Bh ?_ | refine Bg ?_ _)); exact BK242.out)) : gb245 ≠ gb242)); clear BK242; clear HB; have BK242 := n0_; have HB := n1_; have BK245 := n2_; have GW245 := n3_; have GE245 := n4_; have NB242_245 := n5_; have NB245_242 := n6_; clear n0_ n1_ n2_ n3_ n4_ n5_ n6_; clear hb hbox hg; have hnb13 := NB245_242.out; have hnc13 := NB242_245.out; have hcz14_0 : w12.cell? ⟨gb245, 0, none⟩ = some (.int .i64 0) := (Ba BK245.out 0).trans rfl; have hcz14_1 : w12.cell? ⟨gb245, 1, none⟩ = some (.int .i64 0) := (Ba BK245.out 1).trans rfl; have hcz14_2 : w12.cell? ⟨gb245, 2, none⟩ = some (.int .i64 0) := (Ba BK245.out 2).trans rfl; have hcz14_3 : w12.cell? ⟨gb245, 3, none⟩ = some (.int .i64 0) := (Ba BK245.out 3).trans rfl; have hcz14_4 : w12.cell? ⟨gb245, 4, none⟩ = some (.int .i64 0) := (Ba BK245.out 4).trans rfl; have hcz14_5 : w12.cell? ⟨gb245, 5, none⟩ = some (.int .i64 0) := (Ba BK245.out 5).trans rfl; have hcz14_6 : w12.cell? ⟨gb245, 6, none⟩ = some (.int .i64 0) := (Ba BK245.out 6).trans rfl; have hfz14_0 := Bb BK245.out 0; have hfz14_1 := Bb BK245.out 1; have hfz14_2 := Bb BK245.out 2; have hfz14_3 := Bb BK245.out 3; have hfz14_4 := Bb BK245.out 4; have hfz14_5 := Bb BK245.out 5; have hfz14_6 := Bb BK245.out 6))
   go_loopg [7] kj2 (fun kq v7 w' => ∃ (x7_2 : Int) (x246000_2 : Int) (x246001_2 : Int), v7 = .int .i64 x7_2 ∧ Aside0 (impl_DateOf.l0 kq x7_2 x246000_2 x246001_2 0 (wrap64 (Int.tdiv (Int.tmod (wrap64 (a0 + (wrap64 (a1 * 60)))) 86400) 3600)) (Int.tmod (wrap64 (Int.tdiv (Int.tmod (wrap64 (a0 + (wrap64 (a1 * 60)))) 86400) 60)) 60) (Int.tmod (wrap64 (a0 + (wrap64 (a1 * 60)))) 60) a1 = some (r1, r2, r3, r4, r5, r6, r7, r8)) ∧ Aside0 (kq ≤ kj2) ∧ Aside0 (w'.heap[gb242]? = some (.cells #[.int .i64 0, .int .i64 0, .int .i64 0, .int .i64 0, .int .i64 0, .int .i64 0, .int .i64 0] 24 (0, 0))) ∧ Aside0 (w'.heap[gb245]? = some (.cells #[.int .i64 x246000_2, .int .i64 x246001_2, .int .i64 0, .int .i64 (wrap64 (Int.tdiv (Int.tmod (wrap64 (a0 + (wrap64 (a1 * 60)))) 86400) 3600)), .int .i64 (Int.tmod (wrap64 (Int.tdiv (Int.tmod (wrap64 (a0 + (wrap64 (a1 * 60)))) 86400) 60)) 60), .int .i64 (Int.tmod (wrap64 (a0 + (wrap64 (a1 * 60)))) 60), .int .i64 a1] 24 (0, 0))) ∧ Aside0 (Below w.heap.size w w'))
   case atStart => exact ⟨(wrap64 (Int.tdiv (wrap64 (a0 + (wrap64 (a1 * 60)))) 86400)), (1970), (1), (by first | rfl | (simp; done) | (simp [*]; done)), H', ⟨Nat.le_refl _⟩, ⟨by (with_reducible repeat (first | refine Bf ?_ _ | refine Bh ?_ | refine Bg ?_ _)); refine blk_far ?_ NB242_245.out _; (with_reducible repeat (first | refine Bf ?_ _ | refine Bh ?_ | refine Bg ?_ _)); refine blk_far ?_ NB242_245.out _; (with_reducible repeat (first | refine Bf ?_ _ | refine Bh ?_ | refine Bg ?_ _)); refine blk_far ?_ NB242_245.out _; (with_reducible repeat (first | refine Bf ?_ _ | refine Bh ?_ | refine Bg ?_ _)); refine blk_far ?_ NB242_245.out _; (with_reducible repeat (first | refine Bf ?_ _ | refine Bh ?_ | refine Bg ?_ _)); refine blk_far ?_ NB242_245.out _; (with_reducible repeat (first | refine Bf ?_ _ | refine Bh ?_ | refine Bg ?_ _)); refine blk_far ?_ NB242_245.out _; (with_reducible repeat (first | refine Bf ?_ _ | refine Bh ?_ | refine Bg ?_ _)); refine blk_far ?_ NB242_245.out _; (with_reducible repeat (first | refine Bf ?_ _ | refine Bh ?_ | refine Bg ?_ _)); exact BK242.out⟩, ⟨by (with_reducible repeat (first | refine Bf ?_ _ | refine Bh ?_ | refine Bg ?_ _)); refine blk_put (cs := #[.int .i64 1970, .int .i64 1, .int .i64 0, .int .i64 (wrap64 (Int.tdiv (Int.tmod (wrap64 (a0 + (wrap64 (a1 * 60)))) 86400) 3600)), .int .i64 (Int.tmod (wrap64 (Int.tdiv (Int.tmod (wrap64 (a0 + (wrap64 (a1 * 60)))) 86400) 60)) 60), .int .i64 (Int.tmod (wrap64 (a0 + (wrap64 (a1 * 60)))) 60), .int .i64 0]) ?_ 6 _ rfl; (with_reducible repeat (first | refine Bf ?_ _ | refine Bh ?_ | refine Bg ?_ _)); refine blk_put (cs := #[.int .i64 1970, .int .i64 1, .int .i64 0, .int .i64 (wrap64 (Int.tdiv (Int.tmod (wrap64 (a0 + (wrap64 (a1 * 60)))) 86400) 3600)), .int .i64 (Int.tmod (wrap64 (Int.tdiv (Int.tmod (wrap64 (a0 + (wrap64 (a1 * 60)))) 86400) 60)) 60), .int .i64 0, .int .i64 0]) ?_ 5 _ rfl; (with_reducible repeat (first | refine Bf ?_ _ | refine Bh ?_ | refine Bg ?_ _)); refine blk_put (cs := #[.int .i64 1970, .int .i64 1, .int .i64 0, .int .i64 (wrap64 (Int.tdiv (Int.tmod (wrap64 (a0 + (wrap64 (a1 * 60)))) 86400) 3600)), .int .i64 0, .int .i64 0, .int .i64 0]) ?_ 4 _ rfl; (with_reducible repeat (first | refine Bf ?_ _ | refine Bh ?_ | refine Bg ?_ _)); refine blk_put (cs := #[.int .i64 1970, .int .i64 1, .int .i64 0, .int .i64 0, .int .i64 0, .int .i64 0, .int .i64 0]) ?_ 3 _ rfl; (with_reducible repeat (first | refine Bf ?_ _ | refine Bh ?_ | refine Bg ?_ _)); refine blk_put (cs := #[.int .i64 1970, .int .i64 1, .int .i64 0, .int .i64 0, .int .i64 0, .int .i64 0, .int .i64 0]) ?_ 2 _ rfl; (with_reducible repeat (first | refine Bf ?_ _ | refine Bh ?_ | refine Bg ?_ _)); refine blk_put (cs := #[.int .i64 1970, .int .i64 0, .int .i64 0, .int .i64 0, .int .i64 0, .int .i64 0, .int .i64 0]) ?_ 1 _ rfl; (with_reducible repeat (first | refine Bf ?_ _ | refine Bh ?_ | refine Bg ?_ _)); refine blk_put (cs := #[.int .i64 0, .int .i64 0, .int .i64 0, .int .i64 0, .int .i64 0, .int .i64 0, .int .i64 0]) ?_ 0 _ rfl; (with_reducible repeat (first | refine Bf ?_ _ | refine Bh ?_ | refine Bg ?_ _)); exact BK245.out⟩, ⟨by repeat (first | (with_reducible first | exact HB.out | apply Be | apply Bc | apply Bd | refine below_set ?_ GE242.out | refine below_set ?_ GE245.out) | exact HB.out)⟩⟩
   case round =>
    clear H'
    try clear c1
    try clear p2
    try clear c6
    try clear p6
    try clear c7
    try clear c8
    try clear c10
    try clear c10b0
    try clear c13
    try clear hcz11_0
    try clear hcz11_1
    try clear hcz11_2
    try clear hcz11_3
    try clear hcz11_4
    try clear hcz11_5
    try clear hcz11_6
    try clear hcz14_0
    try clear hcz14_1
    try clear hcz14_2
    try clear hcz14_3
    try clear hcz14_4
    try clear hcz14_5
    try clear hcz14_6
    try clear hcz9_0
    try clear hcz9_1
    try clear hcz9_2
    try clear hcz9_3
    try clear hcz9_4
    try clear hcz9_5
    try clear hcz9_6
    try clear hfz11_0
    try clear hfz11_1
    try clear hfz11_2
    try clear hfz11_3
    try clear hfz11_4
    try clear hfz11_5
    try clear hfz11_6
    try clear hfz14_0
    try clear hfz14_1
    try clear hfz14_2
    try clear hfz14_3
    try clear hfz14_4
    try clear hfz14_5
    try clear hfz14_6
    try clear hfz9_0
    try clear hfz9_1
    try clear hfz9_2
    try clear hfz9_3
    try clear hfz9_4
    try clear hfz9_5
    try clear hfz9_6
    try clear p2
    obtain ⟨x7_2, x246000_2, x246001_2, rfl, HA, HK2, BK242, BK245, HB⟩ := hrel
    cases gk with
    | zero => exact absurd HA.out (by simp [impl_DateOf.l0])
    | succ k2 =>
     have H := HA.out; clear HA
     simp only [impl_DateOf.l0] at H
     have HC15 := Aside0.mk H; clear H
     go_upto_region 8 with (fail)
     go_cut [50] (fun v50 wc => ∃ (kq : Nat) (x50_14 : Bool), v50 = .bool x50_14 ∧ Aside0 (impl_DateOf.j2 kq x7_2 x50_14 x246000_2 x246001_2 0 (wrap64 (Int.tdiv (Int.tmod (wrap64 (a0 + (wrap64 (a1 * 60)))) 86400) 3600)) (Int.tmod (wrap64 (Int.tdiv (Int.tmod (wrap64 (a0 + (wrap64 (a1 * 60)))) 86400) 60)) 60) (Int.tmod (wrap64 (a0 + (wrap64 (a1 * 60)))) 60) a1 = some (r1, r2, r3, r4, r5, r6, r7, r8)) ∧ Aside0 (kq ≤ k2) ∧ Aside0 (wc.heap[gb242]? = some (.cells #[.int .i64 0, .int .i64 0, .int .i64 0, .int .i64 0, .int .i64 0, .int .i64 0, .int .i64 0] 24 (0, 0))) ∧ Aside0 (wc.heap[gb245]? = some (.cells #[.int .i64 x246000_2, .int .i64 x246001_2, .int .i64 0, .int .i64 (wrap64 (Int.tdiv (Int.tmod (wrap64 (a0 + (wrap64 (a1 * 60)))) 86400) 3600)), .int .i64 (Int.tmod (wrap64 (Int.tdiv (Int.tmod (wrap64 (a0 + (wrap64 (a1 * 60)))) 86400) 60)) 60), .int .i64 (Int.tmod (wrap64 (a0 + (wrap64 (a1 * 60)))) 60), .int .i64 a1] 24 (0, 0))) ∧ Aside0 (Below w.heap.size w wc))
     case first =>
      have H := HC15.out; clear HC15
      by_cases c16 : x246000_2 ≤ 2099
      ·rw [if_pos c16] at H
       have c16b0 : decide (x246000_2 ≤ 2099) = true := decide_eq_true c16
       clear c16
       (first | rw [c16b0] | (simp only [i64_w, i32_w]; rw [c16b0]) | skip)
       replace H := Option.bind_eq_some_iff.mp H
       obtain ⟨t246, A170, H⟩ := H
       replace H : (impl_DateOf.j2 k2 x7_2 (decide (x7_2 ≥ t246)) x246000_2 x246001_2 0 (wrap64 (Int.tdiv (Int.tmod (wrap64 (a0 + (wrap64 (a1 * 60)))) 86400) 3600)) (Int.tmod (wrap64 (Int.tdiv (Int.tmod (wrap64 (a0 + (wrap64 (a1 * 60)))) 86400) 60)) 60) (Int.tmod (wrap64 (a0 + (wrap64 (a1 * 60)))) 60) a1) = some (r1, r2, r3, r4, r5, r6, r7, r8) := H
       have A17 := Aside0.mk A170; clear A170
       have H' := Aside0.mk H
       clear H; have hnb18 := NB245_242.out; have hnc18 := NB242_245.out
       have hcz19_0 : wr.cell? ⟨gb245, 0, none⟩ = some (.int .i64 x246000_2) := (Ba BK245.out 0).trans rfl
       have hcz19_1 : wr.cell? ⟨gb245, 1, none⟩ = some (.int .i64 x246001_2) := (Ba BK245.out 1).trans rfl
       have hcz19_2 : wr.cell? ⟨gb245, 2, none⟩ = some (.int .i64 0) := (Ba BK245.out 2).trans rfl
       have hcz19_3 : wr.cell? ⟨gb245, 3, none⟩ = some (.int .i64 (wrap64 (Int.tdiv (Int.tmod (wrap64 (a0 + (wrap64 (a1 * 60)))) 86400) 3600))) := (Ba BK245.out 3).trans rfl
       have hcz19_4 : wr.cell? ⟨gb245, 4, none⟩ = some (.int .i64 (Int.tmod (wrap64 (Int.tdiv (Int.tmod (wrap64 (a0 + (wrap64 (a1 * 60)))) 86400) 60)) 60)) := (Ba BK245.out 4).trans rfl
       have hcz19_5 : wr.cell? ⟨gb245, 5, none⟩ = some (.int .i64 (Int.tmod (wrap64 (a0 + (wrap64 (a1 * 60)))) 60)) := (Ba BK245.out 5).trans rfl
       have hcz19_6 : wr.cell? ⟨gb245, 6, none⟩ = some (.int .i64 a1) := (Ba BK245.out 6).trans rfl
       have hfz19_0 := Bb BK245.out 0; have hfz19_1 := Bb BK245.out 1; have hfz19_2 := Bb BK245.out 2; have hfz19_3 := Bb BK245.out 3; have hfz19_4 := Bb BK245.out 4; have hfz19_5 := Bb BK245.out 5; have hfz19_6 := Bb BK245.out 6
       go_wp2_with (first | (go_at_call 15; (with_reducible refine (impl_DaysOf.calls k2 x246000_2 x246001_2 t246 _ A17.out).mono ?_); rintro e w' ⟨rfl, ⟨nd, rfl⟩⟩))
       go_meet
       case rel => exact ⟨_, (decide (x7_2 ≥ t246)), (by first | rfl | (simp; done) | (simp [*]; done)), H', ⟨by have := HJ2.out; have := HK2.out; first | omega | exact Nat.le_refl _⟩, ⟨by (with_reducible repeat (first | refine Bf ?_ _ | refine Bh ?_ | refine Bg ?_ _)); exact BK242.out⟩, ⟨by (with_reducible repeat (first | refine Bf ?_ _ | refine Bh ?_ | refine Bg ?_ _)); exact BK245.out⟩, ⟨by repeat (first | (with_reducible first | exact HB.out | apply Be | apply Bc | apply Bd | refine below_set ?_ GE242.out | refine below_set ?_ GE245.out) | exact HB.out)⟩⟩
      rw [if_neg c16] at H
      have c16b0 : decide (x246000_2 ≤ 2099) = false := decide_eq_false c16
      clear c16
      (first | rw [c16b0] | (simp only [i64_w, i32_w]; rw [c16b0]) | skip)
      have H' := Aside0.mk H
      clear H; have hnb20 := NB245_242.out; have hnc20 := NB242_245.out
      have hcz21_0 : wr.cell? ⟨gb245, 0, none⟩ = some (.int .i64 x246000_2) := (Ba BK245.out 0).trans rfl
      have hcz21_1 : wr.cell? ⟨gb245, 1, none⟩ = some (.int .i64 x246001_2) := (Ba BK245.out 1).trans rfl
      have hcz21_2 : wr.cell? ⟨gb245, 2, none⟩ = some (.int .i64 0) := (Ba BK245.out 2).trans rfl
      have hcz21_3 : wr.cell? ⟨gb245, 3, none⟩ = some (.int .i64 (wrap64 (Int.tdiv (Int.tmod (wrap64 (a0 + (wrap64 (a1 * 60)))) 86400) 3600))) := (Ba BK245.out 3).trans rfl
      have hcz21_4 : wr.cell? ⟨gb245, 4, none⟩ = some (.int .i64 (Int.tmod (wrap64 (Int.tdiv (Int.tmod (wrap64 (a0 + (wrap64 (a1 * 60)))) 86400) 60)) 60)) := (Ba BK245.out 4).trans rfl
      have hcz21_5 : wr.cell? ⟨gb245, 5, none⟩ = some (.int .i64 (Int.tmod (wrap64 (a0 + (wrap64 (a1 * 60)))) 60)) := (Ba BK245.out 5).trans rfl
      have hcz21_6 : wr.cell? ⟨gb245, 6, none⟩ = some (.int .i64 a1) := (Ba BK245.out 6).trans rfl
      have hfz21_0 := Bb BK245.out 0; have hfz21_1 := Bb BK245.out 1; have hfz21_2 := Bb BK245.out 2; have hfz21_3 := Bb BK245.out 3; have hfz21_4 := Bb BK245.out 4; have hfz21_5 := Bb BK245.out 5; have hfz21_6 := Bb BK245.out 6
      go_wp2
      go_meet
      case rel => exact ⟨_, (false), (by first | rfl | (simp; done) | (simp [*]; done)), H', ⟨by have := HJ2.out; have := HK2.out; first | omega | exact Nat.le_refl _⟩, ⟨by (with_reducible repeat (first | refine Bf ?_ _ | refine Bh ?_ | refine Bg ?_ _)); exact BK242.out⟩, ⟨by (with_reducible repeat (first | refine Bf ?_ _ | refine Bh ?_ | refine Bg ?_ _)); exact BK245.out⟩, ⟨by repeat (first | (with_reducible first | exact HB.out | apply Be | apply Bc | apply Bd | refine below_set ?_ GE242.out | refine below_set ?_ GE245.out) | exact HB.out)⟩⟩
     case rest =>
      clear HC15
      try clear c1
      try clear c2
      try clear p2
      try clear c6
      try clear p6
      try clear c7
      try clear c8
      try clear c10
      try clear c10b0
      try clear c13
      try clear c16
      try clear c16b0
      try clear c18
      try clear c20
      try clear hcz11_0
      try clear hcz11_1
      try clear hcz11_2
      try clear hcz11_3
      try clear hcz11_4
      try clear hcz11_5
      try clear hcz11_6
      try clear hcz14_0
      try clear hcz14_1
      try clear hcz14_2
      try clear hcz14_3
      try clear hcz14_4
      try clear hcz14_5
      try clear hcz14_6
      try clear hcz19_0
      try clear hcz19_1
      try clear hcz19_2
      try clear hcz19_3
      try clear hcz19_4
      try clear hcz19_5
      try clear hcz19_6
      try clear hcz21_0
      try clear hcz21_1
      try clear hcz21_2
      try clear hcz21_3
      try clear hcz21_4
      try clear hcz21_5
      try clear hcz21_6
      try clear hcz9_0
      try clear hcz9_1
      try clear hcz9_2
      try clear hcz9_3
      try clear hcz9_4
      try clear hcz9_5
      try clear hcz9_6
      try clear hfz11_0
      try clear hfz11_1
      try clear hfz11_2
      try clear hfz11_3
      try clear hfz11_4
      try clear hfz11_5
      try clear hfz11_6
      try clear hfz14_0
      try clear hfz14_1
      try clear hfz14_2
      try clear hfz14_3
      try clear hfz14_4
      try clear hfz14_5
      try clear hfz14_6
      try clear hfz19_0
      try clear hfz19_1
      try clear hfz19_2
      try clear hfz19_3
      try clear hfz19_4
      try clear hfz19_5
      try clear hfz19_6
      try clear hfz21_0
      try clear hfz21_1
      try clear hfz21_2
      try clear hfz21_3
      try clear hfz21_4
      try clear hfz21_5
      try clear hfz21_6
      try clear hfz9_0
      try clear hfz9_1
      try clear hfz9_2
      try clear hfz9_3
      try clear hfz9_4
      try clear hfz9_5
      try clear hfz9_6
      try clear p2
      try clear p6
      obtain ⟨kq, x50_14, rfl, HA, HJ14, BK242, BK245, HB⟩ := hcut
      cases kq with
      | zero => exact absurd HA.out (by simp [impl_DateOf.j2])
      | succ kj14 =>
       have H := HA.out; clear HA
       simp only [impl_DateOf.j2] at H
       by_cases c22 : x50_14 = true
       ·subst c22
        have H1 : ((impl_DaysOf.f kj14 x246000_2 x246001_2).bind fun t247 => (if (wrap64 (x246001_2 + 1)) > 12 then (impl_DateOf.l0 kj14 (wrap64 (x7_2 - t247)) (wrap64 (x246000_2 + 1)) 1 0 (wrap64 (Int.tdiv (Int.tmod (wrap64 (a0 + (wrap64 (a1 * 60)))) 86400) 3600)) (Int.tmod (wrap64 (Int.tdiv (Int.tmod (wrap64 (a0 + (wrap64 (a1 * 60)))) 86400) 60)) 60) (Int.tmod (wrap64 (a0 + (wrap64 (a1 * 60)))) 60) a1) else (impl_DateOf.l0 kj14 (wrap64 (x7_2 - t247)) x246000_2 (wrap64 (x246001_2 + 1)) 0 (wrap64 (Int.tdiv (Int.tmod (wrap64 (a0 + (wrap64 (a1 * 60)))) 86400) 3600)) (Int.tmod (wrap64 (Int.tdiv (Int.tmod (wrap64 (a0 + (wrap64 (a1 * 60)))) 86400) 60)) 60) (Int.tmod (wrap64 (a0 + (wrap64 (a1 * 60)))) 60) a1))) = some (r1, r2, r3, r4, r5, r6, r7, r8) := by rw [if_pos rfl] at H; exact H
        clear H; have H := H1; clear H1; replace H := Option.bind_eq_some_iff.mp H
        obtain ⟨t247, A230, H⟩ := H
        replace H : (if (wrap64 (x246001_2 + 1)) > 12 then (impl_DateOf.l0 kj14 (wrap64 (x7_2 - t247)) (wrap64 (x246000_2 + 1)) 1 0 (wrap64 (Int.tdiv (Int.tmod (wrap64 (a0 + (wrap64 (a1 * 60)))) 86400) 3600)) (Int.tmod (wrap64 (Int.tdiv (Int.tmod (wrap64 (a0 + (wrap64 (a1 * 60)))) 86400) 60)) 60) (Int.tmod (wrap64 (a0 + (wrap64 (a1 * 60)))) 60) a1) else (impl_DateOf.l0 kj14 (wrap64 (x7_2 - t247)) x246000_2 (wrap64 (x246001_2 + 1)) 0 (wrap64 (Int.tdiv (Int.tmod (wrap64 (a0 + (wrap64 (a1 * 60)))) 86400) 3600)) (Int.tmod (wrap64 (Int.tdiv (Int.tmod (wrap64 (a0 + (wrap64 (a1 * 60)))) 86400) 60)) 60) (Int.tmod (wrap64 (a0 + (wrap64 (a1 * 60)))) 60) a1)) = some (r1, r2, r3, r4, r5, r6, r7, r8) := H
        have A23 := Aside0.mk A230; clear A230
        by_cases c24 : (wrap64 (x246001_2 + 1)) > 12
        ·rw [if_pos c24] at H
         have c24b0 : decide (12 < (wrap64 (x246001_2 + 1))) = true := decide_eq_true c24
         clear c24
         have H' := Aside0.mk H
         clear H; have hnb25 := NB245_242.out; have hnc25 := NB242_245.out
         have hcz26_0 : wc.cell? ⟨gb245, 0, none⟩ = some (.int .i64 x246000_2) := (Ba BK245.out 0).trans rfl
         have hcz26_1 : wc.cell? ⟨gb245, 1, none⟩ = some (.int .i64 x246001_2) := (Ba BK245.out 1).trans rfl
         have hcz26_2 : wc.cell? ⟨gb245, 2, none⟩ = some (.int .i64 0) := (Ba BK245.out 2).trans rfl
         have hcz26_3 : wc.cell? ⟨gb245, 3, none⟩ = some (.int .i64 (wrap64 (Int.tdiv (Int.tmod (wrap64 (a0 + (wrap64 (a1 * 60)))) 86400) 3600))) := (Ba BK245.out 3).trans rfl
         have hcz26_4 : wc.cell? ⟨gb245, 4, none⟩ = some (.int .i64 (Int.tmod (wrap64 (Int.tdiv (Int.tmod (wrap64 (a0 + (wrap64 (a1 * 60)))) 86400) 60)) 60)) := (Ba BK245.out 4).trans rfl
         have hcz26_5 : wc.cell? ⟨gb245, 5, none⟩ = some (.int .i64 (Int.tmod (wrap64 (a0 + (wrap64 (a1 * 60)))) 60)) := (Ba BK245.out 5).trans rfl
         have hcz26_6 : wc.cell? ⟨gb245, 6, none⟩ = some (.int .i64 a1) := (Ba BK245.out 6).trans rfl
         have hfz26_0 := Bb BK245.out 0; have hfz26_1 := Bb BK245.out 1; have hfz26_2 := Bb BK245.out 2; have hfz26_3 := Bb BK245.out 3; have hfz26_4 := Bb BK245.out 4; have hfz26_5 := Bb BK245.out 5; have hfz26_6 := Bb BK245.out 6
         go_wp2_with (first | ((with_reducible refine gate_callee (f := 15) rfl ?_); refine goesL_ (some 56) rfl rfl Try.func15 (by kernel_rfl) rfl #[.int .i64 x246000_2, .int .i64 x246001_2] rfl (by (try simp only [List.map_toArray, List.map_cons, List.map_nil]); first | done | rfl | (simp only [List.length_drop, List.length_take]; rfl)) ?_; (with_reducible refine (impl_DaysOf.calls kj14 x246000_2 x246001_2 t247 _ A23.out).mono ?_); rintro e w' ⟨rfl, ⟨nd, rfl⟩⟩; refine ⟨_, rfl, ?_⟩; (try (rw [drewN_self wc]; generalize hq_ : World.drewN wc _ = wc; have n0_ : Aside0 (wc.heap[gb242]? = some (.cells #[.int .i64 0, .int .i64 0, .int .i64 0, .int .i64 0, .int .i64 0, .int .i64 0, .int .i64 0] 24 (0, 0))) := ⟨by rw [← hq_]; exact (by (with_reducible repeat (first | refine Bf ?_ _ | refine Bh ?_ | refine Bg ?_ _)); exact BK242.out)⟩; have n1_ : Aside0 (wc.heap[gb245]? = some (.cells #[.int .i64 x246000_2, .int .i64 x246001_2, .int .i64 0, .int .i64 (wrap64 (Int.tdiv (Int.tmod (wrap64 (a0 + (wrap64 (a1 * 60)))) 86400) 3600)), .int .i64 (Int.tmod (wrap64 (Int.tdiv (Int.tmod (wrap64 (a0 + (wrap64 (a1 * 60)))) 86400) 60)) 60), .int .i64 (Int.tmod (wrap64 (a0 + (wrap64 (a1 * 60)))) 60), .int .i64 a1] 24 (0, 0))) := ⟨by rw [← hq_]; exact (by (with_reducible repeat (first | refine Bf ?_ _ | refine Bh ?_ | refine Bg ?_ _)); exact BK245.out)⟩; have n2_ : Aside0 (Below w.heap.size w wc) := ⟨by rw [← hq_]; exact (by repeat (first | (with_reducible first | exact HB.out | apply Be | apply Bc | apply Bd | refine below_set ?_ GE242.out | refine below_set ?_ GE245.out) | exact HB.out))⟩; clear BK242 BK245 HB hq_; have BK242 := n0_; have BK245 := n1_; have HB := n2_; clear n0_ n1_ n2_)); have hcz27_0 : wc.cell? ⟨gb245, 0, none⟩ = some (.int .i64 x246000_2) := (Ba BK245.out 0).trans rfl; have hcz27_1 : wc.cell? ⟨gb245, 1, none⟩ = some (.int .i64 x246001_2) := (Ba BK245.out 1).trans rfl; have hcz27_2 : wc.cell? ⟨gb245, 2, none⟩ = some (.int .i64 0) := (Ba BK245.out 2).trans rfl; have hcz27_3 : wc.cell? ⟨gb245, 3, none⟩ = some (.int .i64 (wrap64 (Int.tdiv (Int.tmod (wrap64 (a0 + (wrap64 (a1 * 60)))) 86400) 3600))) := (Ba BK245.out 3).trans rfl; have hcz27_4 : wc.cell? ⟨gb245, 4, none⟩ = some (.int .i64 (Int.tmod (wrap64 (Int.tdiv (Int.tmod (wrap64 (a0 + (wrap64 (a1 * 60)))) 86400) 60)) 60)) := (Ba BK245.out 4).trans rfl; have hcz27_5 : wc.cell? ⟨gb245, 5, none⟩ = some (.int .i64 (Int.tmod (wrap64 (a0 + (wrap64 (a1 * 60)))) 60)) := (Ba BK245.out 5).trans rfl; have hcz27_6 : wc.cell? ⟨gb245, 6, none⟩ = some (.int .i64 a1) := (Ba BK245.out 6).trans rfl; have hfz27_0 := Bb BK245.out 0; have hfz27_1 := Bb BK245.out 1; have hfz27_2 := Bb BK245.out 2; have hfz27_3 := Bb BK245.out 3; have hfz27_4 := Bb BK245.out 4; have hfz27_5 := Bb BK245.out 5; have hfz27_6 := Bb BK245.out 6))
         go_roundg kj14
         case measure => have := HJ2.out; have := HK2.out; have := HJ14.out; omega
         case rel => exact ⟨(wrap64 (x7_2 - t247)), (wrap64 (x246000_2 + 1)), (1), (by first | rfl | (simp; done) | (simp [*]; done)), H', ⟨by have := HJ2.out; have := HK2.out; have := HJ14.out; omega⟩, ⟨by (with_reducible repeat (first | refine Bf ?_ _ | refine Bh ?_ | refine Bg ?_ _)); refine blk_far ?_ NB242_245.out _; (with_reducible repeat (first | refine Bf ?_ _ | refine Bh ?_ | refine Bg ?_ _)); refine blk_far ?_ NB242_245.out _; (with_reducible repeat (first | refine Bf ?_ _ | refine Bh ?_ | refine Bg ?_ _)); refine blk_far ?_ NB242_245.out _; (with_reducible repeat (first | refine Bf ?_ _ | refine Bh ?_ | refine Bg ?_ _)); exact BK242.out⟩, ⟨by (with_reducible repeat (first | refine Bf ?_ _ | refine Bh ?_ | refine Bg ?_ _)); refine blk_put (cs := #[.int .i64 (wrap64 (x246000_2 + 1)), .int .i64 (wrap64 (x246001_2 + 1)), .int .i64 0, .int .i64 (wrap64 (Int.tdiv (Int.tmod (wrap64 (a0 + (wrap64 (a1 * 60)))) 86400) 3600)), .int .i64 (Int.tmod (wrap64 (Int.tdiv (Int.tmod (wrap64 (a0 + (wrap64 (a1 * 60)))) 86400) 60)) 60), .int .i64 (Int.tmod (wrap64 (a0 + (wrap64 (a1 * 60)))) 60), .int .i64 a1]) ?_ 1 _ rfl; (with_reducible repeat (first | refine Bf ?_ _ | refine Bh ?_ | refine Bg ?_ _)); refine blk_put (cs := #[.int .i64 x246000_2, .int .i64 (wrap64 (x246001_2 + 1)), .int .i64 0, .int .i64 (wrap64 (Int.tdiv (Int.tmod (wrap64 (a0 + (wrap64 (a1 * 60)))) 86400) 3600)), .int .i64 (Int.tmod (wrap64 (Int.tdiv (Int.tmod (wrap64 (a0 + (wrap64 (a1 * 60)))) 86400) 60)) 60), .int .i64 (Int.tmod (wrap64 (a0 + (wrap64 (a1 * 60)))) 60), .int .i64 a1]) ?_ 0 _ rfl; (with_reducible repeat (first | refine Bf ?_ _ | refine Bh ?_ | refine Bg ?_ _)); refine blk_put (cs := #[.int .i64 x246000_2, .int .i64 x246001_2, .int .i64 0, .int .i64 (wrap64 (Int.tdiv (Int.tmod (wrap64 (a0 + (wrap64 (a1 * 60)))) 86400) 3600)), .int .i64 (Int.tmod (wrap64 (Int.tdiv (Int.tmod (wrap64 (a0 + (wrap64 (a1 * 60)))) 86400) 60)) 60), .int .i64 (Int.tmod (wrap64 (a0 + (wrap64 (a1 * 60)))) 60), .int .i64 a1]) ?_ 1 _ rfl; (with_reducible repeat (first | refine Bf ?_ _ | refine Bh ?_ | refine Bg ?_ _)); exact BK245.out⟩, ⟨by repeat (first | (with_reducible first | exact HB.out | apply Be | apply Bc | apply Bd | refine below_set ?_ GE242.out | refine below_set ?_ GE245.out) | exact HB.out)⟩⟩
        rw [if_neg c24] at H
        have c24b0 : decide (12 < (wrap64 (x246001_2 + 1))) = false := decide_eq_false c24
        clear c24
        have H' := Aside0.mk H
        clear H; have hnb28 := NB245_242.out; have hnc28 := NB242_245.out
        have hcz29_0 : wc.cell? ⟨gb245, 0, none⟩ = some (.int .i64 x246000_2) := (Ba BK245.out 0).trans rfl
        have hcz29_1 : wc.cell? ⟨gb245, 1, none⟩ = some (.int .i64 x246001_2) := (Ba BK245.out 1).trans rfl
        have hcz29_2 : wc.cell? ⟨gb245, 2, none⟩ = some (.int .i64 0) := (Ba BK245.out 2).trans rfl
        have hcz29_3 : wc.cell? ⟨gb245, 3, none⟩ = some (.int .i64 (wrap64 (Int.tdiv (Int.tmod (wrap64 (a0 + (wrap64 (a1 * 60)))) 86400) 3600))) := (Ba BK245.out 3).trans rfl
        have hcz29_4 : wc.cell? ⟨gb245, 4, none⟩ = some (.int .i64 (Int.tmod (wrap64 (Int.tdiv (Int.tmod (wrap64 (a0 + (wrap64 (a1 * 60)))) 86400) 60)) 60)) := (Ba BK245.out 4).trans rfl
        have hcz29_5 : wc.cell? ⟨gb245, 5, none⟩ = some (.int .i64 (Int.tmod (wrap64 (a0 + (wrap64 (a1 * 60)))) 60)) := (Ba BK245.out 5).trans rfl
        have hcz29_6 : wc.cell? ⟨gb245, 6, none⟩ = some (.int .i64 a1) := (Ba BK245.out 6).trans rfl
        have hfz29_0 := Bb BK245.out 0; have hfz29_1 := Bb BK245.out 1; have hfz29_2 := Bb BK245.out 2; have hfz29_3 := Bb BK245.out 3; have hfz29_4 := Bb BK245.out 4; have hfz29_5 := Bb BK245.out 5; have hfz29_6 := Bb BK245.out 6
        go_wp2_with (first | ((with_reducible refine gate_callee (f := 15) rfl ?_); refine goesL_ (some 56) rfl rfl Try.func15 (by kernel_rfl) rfl #[.int .i64 x246000_2, .int .i64 x246001_2] rfl (by (try simp only [List.map_toArray, List.map_cons, List.map_nil]); first | done | rfl | (simp only [List.length_drop, List.length_take]; rfl)) ?_; (with_reducible refine (impl_DaysOf.calls kj14 x246000_2 x246001_2 t247 _ A23.out).mono ?_); rintro e w' ⟨rfl, ⟨nd, rfl⟩⟩; refine ⟨_, rfl, ?_⟩; (try (rw [drewN_self wc]; generalize hq_ : World.drewN wc _ = wc; have n0_ : Aside0 (wc.heap[gb242]? = some (.cells #[.int .i64 0, .int .i64 0, .int .i64 0, .int .i64 0, .int .i64 0, .int .i64 0, .int .i64 0] 24 (0, 0))) := ⟨by rw [← hq_]; exact (by (with_reducible repeat (first | refine Bf ?_ _ | refine Bh ?_ | refine Bg ?_ _)); exact BK242.out)⟩; have n1_ : Aside0 (wc.heap[gb245]? = some (.cells #[.int .i64 x246000_2, .int .i64 x246001_2, .int .i64 0, .int .i64 (wrap64 (Int.tdiv (Int.tmod (wrap64 (a0 + (wrap64 (a1 * 60)))) 86400) 3600)), .int .i64 (Int.tmod (wrap64 (Int.tdiv (Int.tmod (wrap64 (a0 + (wrap64 (a1 * 60)))) 86400) 60)) 60), .int .i64 (Int.tmod (wrap64 (a0 + (wrap64 (a1 * 60)))) 60), .int .i64 a1] 24 (0, 0))) := ⟨by rw [← hq_]; exact (by (with_reducible repeat (first | refine Bf ?_ _ | refine Bh ?_ | refine Bg ?_ _)); exact BK245.out)⟩; have n2_ : Aside0 (Below w.heap.size w wc) := ⟨by rw [← hq_]; exact (by repeat (first | (with_reducible first | exact HB.out | apply Be | apply Bc | apply Bd | refine below_set ?_ GE242.out | refine below_set ?_ GE245.out) | exact HB.out))⟩; clear BK242 BK245 HB hq_; have BK242 := n0_; have BK245 := n1_; have HB := n2_; clear n0_ n1_ n2_)); have hcz30_0 : wc.cell? ⟨gb245, 0, none⟩ = some (.int .i64 x246000_2) := (Ba BK245.out 0).trans rfl; have hcz30_1 : wc.cell? ⟨gb245, 1, none⟩ = some (.int .i64 x246001_2) := (Ba BK245.out 1).trans rfl; have hcz30_2 : wc.cell? ⟨gb245, 2, none⟩ = some (.int .i64 0) := (Ba BK245.out 2).trans rfl; have hcz30_3 : wc.cell? ⟨gb245, 3, none⟩ = some (.int .i64 (wrap64 (Int.tdiv (Int.tmod (wrap64 (a0 + (wrap64 (a1 * 60)))) 86400) 3600))) := (Ba BK245.out 3).trans rfl; have hcz30_4 : wc.cell? ⟨gb245, 4, none⟩ = some (.int .i64 (Int.tmod (wrap64 (Int.tdiv (Int.tmod (wrap64 (a0 + (wrap64 (a1 * 60)))) 86400) 60)) 60)) := (Ba BK245.out 4).trans rfl; have hcz30_5 : wc.cell? ⟨gb245, 5, none⟩ = some (.int .i64 (Int.tmod (wrap64 (a0 + (wrap64 (a1 * 60)))) 60)) := (Ba BK245.out 5).trans rfl; have hcz30_6 : wc.cell? ⟨gb245, 6, none⟩ = some (.int .i64 a1) := (Ba BK245.out 6).trans rfl; have hfz30_0 := Bb BK245.out 0; have hfz30_1 := Bb BK245.out 1; have hfz30_2 := Bb BK245.out 2; have hfz30_3 := Bb BK245.out 3; have hfz30_4 := Bb BK245.out 4; have hfz30_5 := Bb BK245.out 5; have hfz30_6 := Bb BK245.out 6))
        go_roundg kj14
        case measure => have := HJ2.out; have := HK2.out; have := HJ14.out; omega
        case rel => exact ⟨(wrap64 (x7_2 - t247)), (x246000_2), (wrap64 (x246001_2 + 1)), (by first | rfl | (simp; done) | (simp [*]; done)), H', ⟨by have := HJ2.out; have := HK2.out; have := HJ14.out; omega⟩, ⟨by (with_reducible repeat (first | refine Bf ?_ _ | refine Bh ?_ | refine Bg ?_ _)); refine blk_far ?_ NB242_245.out _; (with_reducible repeat (first | refine Bf ?_ _ | refine Bh ?_ | refine Bg ?_ _)); exact BK242.out⟩, ⟨by (with_reducible repeat (first | refine Bf ?_ _ | refine Bh ?_ | refine Bg ?_ _)); refine blk_put (cs := #[.int .i64 x246000_2, .int .i64 x246001_2, .int .i64 0, .int .i64 (wrap64 (Int.tdiv (Int.tmod (wrap64 (a0 + (wrap64 (a1 * 60)))) 86400) 3600)), .int .i64 (Int.tmod (wrap64 (Int.tdiv (Int.tmod (wrap64 (a0 + (wrap64 (a1 * 60)))) 86400) 60)) 60), .int .i64 (Int.tmod (wrap64 (a0 + (wrap64 (a1 * 60)))) 60), .int .i64 a1]) ?_ 1 _ rfl; (with_reducible repeat (first | refine Bf ?_ _ | refine Bh ?_ | refine Bg ?_ _)); exact BK245.out⟩, ⟨by repeat (first | (with_reducible first | exact HB.out | apply Be | apply Bc | apply Bd | refine below_set ?_ GE242.out | refine below_set ?_ GE245.out) | exact HB.out)⟩⟩
       replace c22 := Bool.eq_false_iff.mpr c22
       subst c22
       have H1 : ((impl_DateValid.f kj14 x246000_2 x246001_2 (wrap64 (x7_2 + 1)) (wrap64 (Int.tdiv (Int.tmod (wrap64 (a0 + (wrap64 (a1 * 60)))) 86400) 3600)) (Int.tmod (wrap64 (Int.tdiv (Int.tmod (wrap64 (a0 + (wrap64 (a1 * 60)))) 86400) 60)) 60) (Int.tmod (wrap64 (a0 + (wrap64 (a1 * 60)))) 60) a1).bind fun t248 => (if t248 = true then (some (x246000_2, x246001_2, wrap64 (x7_2 + 1), (wrap64 (Int.tdiv (Int.tmod (wrap64 (a0 + (wrap64 (a1 * 60)))) 86400) 3600)), (Int.tmod (wrap64 (Int.tdiv (Int.tmod (wrap64 (a0 + (wrap64 (a1 * 60)))) 86400) 60)) 60), (Int.tmod (wrap64 (a0 + (wrap64 (a1 * 60)))) 60), a1, true)) else (some (0, 0, 0, 0, 0, 0, 0, false)))) = some (r1, r2, r3, r4, r5, r6, r7, r8) := by rw [if_neg (show ¬ (false = true) by decide)] at H; exact H
       clear H; have H := H1; clear H1; replace H := Option.bind_eq_some_iff.mp H
       obtain ⟨t248, A310, H⟩ := H
       replace H : (if t248 = true then (some (x246000_2, x246001_2, wrap64 (x7_2 + 1), (wrap64 (Int.tdiv (Int.tmod (wrap64 (a0 + (wrap64 (a1 * 60)))) 86400) 3600)), (Int.tmod (wrap64 (Int.tdiv (Int.tmod (wrap64 (a0 + (wrap64 (a1 * 60)))) 86400) 60)) 60), (Int.tmod (wrap64 (a0 + (wrap64 (a1 * 60)))) 60), a1, true)) else (some (0, 0, 0, 0, 0, 0, 0, false))) = some (r1, r2, r3, r4, r5, r6, r7, r8) := H
       have A31 := Aside0.mk A310; clear A310
       by_cases c32 : t248 = true
       ·subst c32
        have H1 : (some (x246000_2, x246001_2, wrap64 (x7_2 + 1), (wrap64 (Int.tdiv (Int.tmod (wrap64 (a0 + (wrap64 (a1 * 60)))) 86400) 3600)), (Int.tmod (wrap64 (Int.tdiv (Int.tmod (wrap64 (a0 + (wrap64 (a1 * 60)))) 86400) 60)) 60), (Int.tmod (wrap64 (a0 + (wrap64 (a1 * 60)))) 60), a1, true)) = some (r1, r2, r3, r4, r5, r6, r7, r8) := by rw [if_pos rfl] at H; exact H
        clear H; have H := H1; clear H1
        simp only [Option.some.injEq, Prod.mk.injEq] at H
        obtain ⟨rfl, rfl, rfl, rfl, rfl, rfl, rfl, rfl⟩ := H
        have hnb33 := NB245_242.out; have hnc33 := NB242_245.out
        have hcz34_0 : wc.cell? ⟨gb245, 0, none⟩ = some (.int .i64 x246000_2) := (Ba BK245.out 0).trans rfl
        have hcz34_1 : wc.cell? ⟨gb245, 1, none⟩ = some (.int .i64 x246001_2) := (Ba BK245.out 1).trans rfl
        have hcz34_2 : wc.cell? ⟨gb245, 2, none⟩ = some (.int .i64 0) := (Ba BK245.out 2).trans rfl
        have hcz34_3 : wc.cell? ⟨gb245, 3, none⟩ = some (.int .i64 (wrap64 (Int.tdiv (Int.tmod (wrap64 (a0 + (wrap64 (a1 * 60)))) 86400) 3600))) := (Ba BK245.out 3).trans rfl
        have hcz34_4 : wc.cell? ⟨gb245, 4, none⟩ = some (.int .i64 (Int.tmod (wrap64 (Int.tdiv (Int.tmod (wrap64 (a0 + (wrap64 (a1 * 60)))) 86400) 60)) 60)) := (Ba BK245.out 4).trans rfl
        have hcz34_5 : wc.cell? ⟨gb245, 5, none⟩ = some (.int .i64 (Int.tmod (wrap64 (a0 + (wrap64 (a1 * 60)))) 60)) := (Ba BK245.out 5).trans rfl
        have hcz34_6 : wc.cell? ⟨gb245, 6, none⟩ = some (.int .i64 a1) := (Ba BK245.out 6).trans rfl
        have hfz34_0 := Bb BK245.out 0; have hfz34_1 := Bb BK245.out 1; have hfz34_2 := Bb BK245.out 2; have hfz34_3 := Bb BK245.out 3; have hfz34_4 := Bb BK245.out 4; have hfz34_5 := Bb BK245.out 5; have hfz34_6 := Bb BK245.out 6
        go_wp2_with (first | ((with_reducible refine gate_callee (f := 9) rfl ?_); refine goesL_ (some 74) rfl rfl Try.func9 (by kernel_rfl) rfl #[.agg #[.int .i64 x246000_2, .int .i64 x246001_2, .int .i64 (wrap64 (x7_2 + 1)), .int .i64 (wrap64 (Int.tdiv (Int.tmod (wrap64 (a0 + (wrap64 (a1 * 60)))) 86400) 3600)), .int .i64 (Int.tmod (wrap64 (Int.tdiv (Int.tmod (wrap64 (a0 + (wrap64 (a1 * 60)))) 86400) 60)) 60), .int .i64 (Int.tmod (wrap64 (a0 + (wrap64 (a1 * 60)))) 60), .int .i64 a1]] rfl (by (try simp only [List.map_toArray, List.map_cons, List.map_nil]); first | done | rfl | (simp only [List.length_drop, List.length_take]; rfl)) ?_; (with_reducible refine (impl_DateValid.calls kj14 x246000_2 x246001_2 (wrap64 (x7_2 + 1)) (wrap64 (Int.tdiv (Int.tmod (wrap64 (a0 + (wrap64 (a1 * 60)))) 86400) 3600)) (Int.tmod (wrap64 (Int.tdiv (Int.tmod (wrap64 (a0 + (wrap64 (a1 * 60)))) 86400) 60)) 60) (Int.tmod (wrap64 (a0 + (wrap64 (a1 * 60)))) 60) a1 true _ A31.out).mono ?_); rintro e w35 ⟨rfl, hb⟩; refine ⟨_, rfl, ?_⟩; have n0_ := Aside0.mk (blk_below (g := gb242) (o := .cells #[.int .i64 0, .int .i64 0, .int .i64 0, .int .i64 0, .int .i64 0, .int .i64 0, .int .i64 0] 24 (0, 0)) (by (with_reducible repeat (first | refine Bf ?_ _ | refine Bh ?_ | refine Bg ?_ _)); refine blk_far ?_ NB242_245.out _; (with_reducible repeat (first | refine Bf ?_ _ | refine Bh ?_ | refine Bg ?_ _)); exact BK242.out) hb); have n1_ := Aside0.mk (blk_below (g := gb245) (o := .cells #[.int .i64 x246000_2, .int .i64 x246001_2, .int .i64 (wrap64 (x7_2 + 1)), .int .i64 (wrap64 (Int.tdiv (Int.tmod (wrap64 (a0 + (wrap64 (a1 * 60)))) 86400) 3600)), .int .i64 (Int.tmod (wrap64 (Int.tdiv (Int.tmod (wrap64 (a0 + (wrap64 (a1 * 60)))) 86400) 60)) 60), .int .i64 (Int.tmod (wrap64 (a0 + (wrap64 (a1 * 60)))) 60), .int .i64 a1] 24 (0, 0)) (by (with_reducible repeat (first | refine Bf ?_ _ | refine Bh ?_ | refine Bg ?_ _)); refine blk_put (cs := #[.int .i64 x246000_2, .int .i64 x246001_2, .int .i64 0, .int .i64 (wrap64 (Int.tdiv (Int.tmod (wrap64 (a0 + (wrap64 (a1 * 60)))) 86400) 3600)), .int .i64 (Int.tmod (wrap64 (Int.tdiv (Int.tmod (wrap64 (a0 + (wrap64 (a1 * 60)))) 86400) 60)) 60), .int .i64 (Int.tmod (wrap64 (a0 + (wrap64 (a1 * 60)))) 60), .int .i64 a1]) ?_ 2 _ rfl; (with_reducible repeat (first | refine Bf ?_ _ | refine Bh ?_ | refine Bg ?_ _)); exact BK245.out) hb); have n2_ := Aside0.mk (below_step (by repeat (first | (with_reducible first | exact HB.out | apply Be | apply Bc | apply Bd | refine below_set ?_ GE242.out | refine below_set ?_ GE245.out) | exact HB.out)) hb); clear BK242; clear BK245; clear HB; have BK242 := n0_; have BK245 := n1_; have HB := n2_; clear n0_ n1_ n2_; (try clear hb); (try clear hb2); (try clear hk); (try clear hi); have hcz36_0 : w35.cell? ⟨gb245, 0, none⟩ = some (.int .i64 x246000_2) := (Ba BK245.out 0).trans rfl; have hcz36_1 : w35.cell? ⟨gb245, 1, none⟩ = some (.int .i64 x246001_2) := (Ba BK245.out 1).trans rfl; have hcz36_2 : w35.cell? ⟨gb245, 2, none⟩ = some (.int .i64 (wrap64 (x7_2 + 1))) := (Ba BK245.out 2).trans rfl; have hcz36_3 : w35.cell? ⟨gb245, 3, none⟩ = some (.int .i64 (wrap64 (Int.tdiv (Int.tmod (wrap64 (a0 + (wrap64 (a1 * 60)))) 86400) 3600))) := (Ba BK245.out 3).trans rfl; have hcz36_4 : w35.cell? ⟨gb245, 4, none⟩ = some (.int .i64 (Int.tmod (wrap64 (Int.tdiv (Int.tmod (wrap64 (a0 + (wrap64 (a1 * 60)))) 86400) 60)) 60)) := (Ba BK245.out 4).trans rfl; have hcz36_5 : w35.cell? ⟨gb245, 5, none⟩ = some (.int .i64 (Int.tmod (wrap64 (a0 + (wrap64 (a1 * 60)))) 60)) := (Ba BK245.out 5).trans rfl; have hcz36_6 : w35.cell? ⟨gb245, 6, none⟩ = some (.int .i64 a1) := (Ba BK245.out 6).trans rfl; have hfz36_0 := Bb BK245.out 0; have hfz36_1 := Bb BK245.out 1; have hfz36_2 := Bb BK245.out 2; have hfz36_3 := Bb BK245.out 3; have hfz36_4 := Bb BK245.out 4; have hfz36_5 := Bb BK245.out 5; have hfz36_6 := Bb BK245.out 6; have hcz37_0 : w35.cell? ⟨gb242, 0, none⟩ = some (.int .i64 0) := (Ba BK242.out 0).trans rfl; have hcz37_1 : w35.cell? ⟨gb242, 1, none⟩ = some (.int .i64 0) := (Ba BK242.out 1).trans rfl; have hcz37_2 : w35.cell? ⟨gb242, 2, none⟩ = some (.int .i64 0) := (Ba BK242.out 2).trans rfl; have hcz37_3 : w35.cell? ⟨gb242, 3, none⟩ = some (.int .i64 0) := (Ba BK242.out 3).trans rfl; have hcz37_4 : w35.cell? ⟨gb242, 4, none⟩ = some (.int .i64 0) := (Ba BK242.out 4).trans rfl; have hcz37_5 : w35.cell? ⟨gb242, 5, none⟩ = some (.int .i64 0) := (Ba BK242.out 5).trans rfl; have hcz37_6 : w35.cell? ⟨gb242, 6, none⟩ = some (.int .i64 0) := (Ba BK242.out 6).trans rfl; have hfz37_0 := Bb BK242.out 0; have hfz37_1 := Bb BK242.out 1; have hfz37_2 := Bb BK242.out 2; have hfz37_3 := Bb BK242.out 3; have hfz37_4 := Bb BK242.out 4; have hfz37_5 := Bb BK242.out 5; have hfz37_6 := Bb BK242.out 6))
        refine bodyPost_ret (results_ct rfl _ _ gb242 24 #[.int .i64 x246000_2, .int .i64 x246001_2, .int .i64 (wrap64 (x7_2 + 1)), .int .i64 (wrap64 (Int.tdiv (Int.tmod (wrap64 (a0 + (wrap64 (a1 * 60)))) 86400) 3600)), .int .i64 (Int.tmod (wrap64 (Int.tdiv (Int.tmod (wrap64 (a0 + (wrap64 (a1 * 60)))) 86400) 60)) 60), .int .i64 (Int.tmod (wrap64 (a0 + (wrap64 (a1 * 60)))) 60), .int .i64 a1] (0, 0) _ rfl (by (with_reducible repeat (first | refine Bf ?_ _ | refine Bh ?_ | refine Bg ?_ _)); refine blk_put (cs := #[.int .i64 x246000_2, .int .i64 x246001_2, .int .i64 (wrap64 (x7_2 + 1)), .int .i64 (wrap64 (Int.tdiv (Int.tmod (wrap64 (a0 + (wrap64 (a1 * 60)))) 86400) 3600)), .int .i64 (Int.tmod (wrap64 (Int.tdiv (Int.tmod (wrap64 (a0 + (wrap64 (a1 * 60)))) 86400) 60)) 60), .int .i64 (Int.tmod (wrap64 (a0 + (wrap64 (a1 * 60)))) 60), .int .i64 0]) ?_ 6 _ rfl; (with_reducible repeat (first | refine Bf ?_ _ | refine Bh ?_ | refine Bg ?_ _)); refine blk_put (cs := #[.int .i64 x246000_2, .int .i64 x246001_2, .int .i64 (wrap64 (x7_2 + 1)), .int .i64 (wrap64 (Int.tdiv (Int.tmod (wrap64 (a0 + (wrap64 (a1 * 60)))) 86400) 3600)), .int .i64 (Int.tmod (wrap64 (Int.tdiv (Int.tmod (wrap64 (a0 + (wrap64 (a1 * 60)))) 86400) 60)) 60), .int .i64 0, .int .i64 0]) ?_ 5 _ rfl; (with_reducible repeat (first | refine Bf ?_ _ | refine Bh ?_ | refine Bg ?_ _)); refine blk_put (cs := #[.int .i64 x246000_2, .int .i64 x246001_2, .int .i64 (wrap64 (x7_2 + 1)), .int .i64 (wrap64 (Int.tdiv (Int.tmod (wrap64 (a0 + (wrap64 (a1 * 60)))) 86400) 3600)), .int .i64 0, .int .i64 0, .int .i64 0]) ?_ 4 _ rfl; (with_reducible repeat (first | refine Bf ?_ _ | refine Bh ?_ | refine Bg ?_ _)); refine blk_put (cs := #[.int .i64 x246000_2, .int .i64 x246001_2, .int .i64 (wrap64 (x7_2 + 1)), .int .i64 0, .int .i64 0, .int .i64 0, .int .i64 0]) ?_ 3 _ rfl; (with_reducible repeat (first | refine Bf ?_ _ | refine Bh ?_ | refine Bg ?_ _)); refine blk_put (cs := #[.int .i64 x246000_2, .int .i64 x246001_2, .int .i64 0, .int .i64 0, .int .i64 0, .int .i64 0, .int .i64 0]) ?_ 2 _ rfl; (with_reducible repeat (first | refine Bf ?_ _ | refine Bh ?_ | refine Bg ?_ _)); refine blk_put (cs := #[.int .i64 x246000_2, .int .i64 0, .int .i64 0, .int .i64 0, .int .i64 0, .int .i64 0, .int .i64 0]) ?_ 1 _ rfl; (with_reducible repeat (first | refine Bf ?_ _ | refine Bh ?_ | refine Bg ?_ _)); refine blk_put (cs := #[.int .i64 0, .int .i64 0, .int .i64 0, .int .i64 0, .int .i64 0, .int .i64 0, .int .i64 0]) ?_ 0 _ rfl; (with_reducible repeat (first | refine Bf ?_ _ | refine Bh ?_ | refine Bg ?_ _)); exact BK242.out) Try.underlying24 rfl (by kernel_rfl)) rfl ?_
        exact ⟨by first | rfl | (simp [errW_none, errW_some] <;> rfl) | (simp [*, errW_none, errW_some] <;> rfl), by repeat (first | (with_reducible first | exact HB.out | apply Be | apply Bc | apply Bd | refine below_set ?_ GE242.out | refine below_set ?_ GE245.out) | exact HB.out)⟩
       replace c32 := Bool.eq_false_iff.mpr c32
       subst c32
       have H1 : (some (0, 0, 0, 0, 0, 0, 0, false)) = some (r1, r2, r3, r4, r5, r6, r7, r8) := by rw [if_neg (show ¬ (false = true) by decide)] at H; exact H
       clear H; have H := H1; clear H1
       simp only [Option.some.injEq, Prod.mk.injEq] at H
       obtain ⟨rfl, rfl, rfl, rfl, rfl, rfl, rfl, rfl⟩ := H
       have hnb38 := NB245_242.out; have hnc38 := NB242_245.out
       have hcz39_0 : wc.cell? ⟨gb245, 0, none⟩ = some (.int .i64 x246000_2) := (Ba BK245.out 0).trans rfl
       have hcz39_1 : wc.cell? ⟨gb245, 1, none⟩ = some (.int .i64 x246001_2) := (Ba BK245.out 1).trans rfl
       have hcz39_2 : wc.cell? ⟨gb245, 2, none⟩ = some (.int .i64 0) := (Ba BK245.out 2).trans rfl
       have hcz39_3 : wc.cell? ⟨gb245, 3, none⟩ = some (.int .i64 (wrap64 (Int.tdiv (Int.tmod (wrap64 (a0 + (wrap64 (a1 * 60)))) 86400) 3600))) := (Ba BK245.out 3).trans rfl
       have hcz39_4 : wc.cell? ⟨gb245, 4, none⟩ = some (.int .i64 (Int.tmod (wrap64 (Int.tdiv (Int.tmod (wrap64 (a0 + (wrap64 (a1 * 60)))) 86400) 60)) 60)) := (Ba BK245.out 4).trans rfl
       have hcz39_5 : wc.cell? ⟨gb245, 5, none⟩ = some (.int .i64 (Int.tmod (wrap64 (a0 + (wrap64 (a1 * 60)))) 60)) := (Ba BK245.out 5).trans rfl
       have hcz39_6 : wc.cell? ⟨gb245, 6, none⟩ = some (.int .i64 a1) := (Ba BK245.out 6).trans rfl
       have hfz39_0 := Bb BK245.out 0; have hfz39_1 := Bb BK245.out 1; have hfz39_2 := Bb BK245.out 2; have hfz39_3 := Bb BK245.out 3; have hfz39_4 := Bb BK245.out 4; have hfz39_5 := Bb BK245.out 5; have hfz39_6 := Bb BK245.out 6
       go_wp2_with (first | ((with_reducible refine gate_callee (f := 9) rfl ?_); refine goesL_ (some 74) rfl rfl Try.func9 (by kernel_rfl) rfl #[.agg #[.int .i64 x246000_2, .int .i64 x246001_2, .int .i64 (wrap64 (x7_2 + 1)), .int .i64 (wrap64 (Int.tdiv (Int.tmod (wrap64 (a0 + (wrap64 (a1 * 60)))) 86400) 3600)), .int .i64 (Int.tmod (wrap64 (Int.tdiv (Int.tmod (wrap64 (a0 + (wrap64 (a1 * 60)))) 86400) 60)) 60), .int .i64 (Int.tmod (wrap64 (a0 + (wrap64 (a1 * 60)))) 60), .int .i64 a1]] rfl (by (try simp only [List.map_toArray, List.map_cons, List.map_nil]); first | done | rfl | (simp only [List.length_drop, List.length_take]; rfl)) ?_; (with_reducible refine (impl_DateValid.calls kj14 x246000_2 x246001_2 (wrap64 (x7_2 + 1)) (wrap64 (Int.tdiv (Int.tmod (wrap64 (a0 + (wrap64 (a1 * 60)))) 86400) 3600)) (Int.tmod (wrap64 (Int.tdiv (Int.tmod (wrap64 (a0 + (wrap64 (a1 * 60)))) 86400) 60)) 60) (Int.tmod (wrap64 (a0 + (wrap64 (a1 * 60)))) 60) a1 false _ A31.out).mono ?_); rintro e w40 ⟨rfl, hb⟩; refine ⟨_, rfl, ?_⟩; have n0_ := Aside0.mk (blk_below (g := gb242) (o := .cells #[.int .i64 0, .int .i64 0, .int .i64 0, .int .i64 0, .int .i64 0, .int .i64 0, .int .i64 0] 24 (0, 0)) (by (with_reducible repeat (first | refine Bf ?_ _ | refine Bh ?_ | refine Bg ?_ _)); refine blk_far ?_ NB242_245.out _; (with_reducible repeat (first | refine Bf ?_ _ | refine Bh ?_ | refine Bg ?_ _)); exact BK242.out) hb); have n1_ := Aside0.mk (blk_below (g := gb245) (o := .cells #[.int .i64 x246000_2, .int .i64 x246001_2, .int .i64 (wrap64 (x7_2 + 1)), .int .i64 (wrap64 (Int.tdiv (Int.tmod (wrap64 (a0 + (wrap64 (a1 * 60)))) 86400) 3600)), .int .i64 (Int.tmod (wrap64 (Int.tdiv (Int.tmod (wrap64 (a0 + (wrap64 (a1 * 60)))) 86400) 60)) 60), .int .i64 (Int.tmod (wrap64 (a0 + (wrap64 (a1 * 60)))) 60), .int .i64 a1] 24 (0, 0)) (by (with_reducible repeat (first | refine Bf ?_ _ | refine Bh ?_ | refine Bg ?_ _)); refine blk_put (cs := #[.int .i64 x246000_2, .int .i64 x246001_2, .int .i64 0, .int .i64 (wrap64 (Int.tdiv (Int.tmod (wrap64 (a0 + (wrap64 (a1 * 60)))) 86400) 3600)), .int .i64 (Int.tmod (wrap64 (Int.tdiv (Int.tmod (wrap64 (a0 + (wrap64 (a1 * 60)))) 86400) 60)) 60), .int .i64 (Int.tmod (wrap64 (a0 + (wrap64 (a1 * 60)))) 60), .int .i64 a1]) ?_ 2 _ rfl; (with_reducible repeat (first | refine Bf ?_ _ | refine Bh ?_ | refine Bg ?_ _)); exact BK245.out) hb); have n2_ := Aside0.mk (below_step (by repeat (first | (with_reducible first | exact HB.out | apply Be | apply Bc | apply Bd | refine below_set ?_ GE242.out | refine below_set ?_ GE245.out) | exact HB.out)) hb); clear BK242; clear BK245; clear HB; have BK242 := n0_; have BK245 := n1_; have HB := n2_; clear n0_ n1_ n2_; (try clear hb); (try clear hb2); (try clear hk); (try clear hi); have hcz41_0 : w40.cell? ⟨gb242, 0, none⟩ = some (.int .i64 0) := (Ba BK242.out 0).trans rfl; have hcz41_1 : w40.cell? ⟨gb242, 1, none⟩ = some (.int .i64 0) := (Ba BK242.out 1).trans rfl; have hcz41_2 : w40.cell? ⟨gb242, 2, none⟩ = some (.int .i64 0) := (Ba BK242.out 2).trans rfl; have hcz41_3 : w40.cell? ⟨gb242, 3, none⟩ = some (.int .i64 0) := (Ba BK242.out 3).trans rfl; have hcz41_4 : w40.cell? ⟨gb242, 4, none⟩ = some (.int .i64 0) := (Ba BK242.out 4).trans rfl; have hcz41_5 : w40.cell? ⟨gb242, 5, none⟩ = some (.int .i64 0) := (Ba BK242.out 5).trans rfl; have hcz41_6 : w40.cell? ⟨gb242, 6, none⟩ = some (.int .i64 0) := (Ba BK242.out 6).trans rfl; have hfz41_0 := Bb BK242.out 0; have hfz41_1 := Bb BK242.out 1; have hfz41_2 := Bb BK242.out 2; have hfz41_3 := Bb BK242.out 3; have hfz41_4 := Bb BK242.out 4; have hfz41_5 := Bb BK242.out 5; have hfz41_6 := Bb BK242.out 6))
       refine bodyPost_ret (results_ct rfl _ _ gb242 24 #[.int .i64 0, .int .i64 0, .int .i64 0, .int .i64 0, .int .i64 0, .int .i64 0, .int .i64 0] (0, 0) _ rfl (by (with_reducible repeat (first | refine Bf ?_ _ | refine Bh ?_ | refine Bg ?_ _)); refine blk_put (cs := #[.int .i64 0, .int .i64 0, .int .i64 0, .int .i64 0, .int .i64 0, .int .i64 0, .int .i64 0]) ?_ 6 _ rfl; (with_reducible repeat (first | refine Bf ?_ _ | refine Bh ?_ | refine Bg ?_ _)); refine blk_put (cs := #[.int .i64 0, .int .i64 0, .int .i64 0, .int .i64 0, .int .i64 0, .int .i64 0, .int .i64 0]) ?_ 5 _ rfl; (with_reducible repeat (first | refine Bf ?_ _ | refine Bh ?_ | refine Bg ?_ _)); refine blk_put (cs := #[.int .i64 0, .int .i64 0, .int .i64 0, .int .i64 0, .int .i64 0, .int .i64 0, .int .i64 0]) ?_ 4 _ rfl; (with_reducible repeat (first | refine Bf ?_ _ | refine Bh ?_ | refine Bg ?_ _)); refine blk_put (cs := #[.int .i64 0, .int .i64 0, .int .i64 0, .int .i64 0, .int .i64 0, .int .i64 0, .int .i64 0]) ?_ 3 _ rfl; (with_reducible repeat (first | refine Bf ?_ _ | refine Bh ?_ | refine Bg ?_ _)); refine blk_put (cs := #[.int .i64 0, .int .i64 0, .int .i64 0, .int .i64 0, .int .i64 0, .int .i64 0, .int .i64 0]) ?_ 2 _ rfl; (with_reducible repeat (first | refine Bf ?_ _ | refine Bh ?_ | refine Bg ?_ _)); refine blk_put (cs := #[.int .i64 0, .int .i64 0, .int .i64 0, .int .i64 0, .int .i64 0, .int .i64 0, .int .i64 0]) ?_ 1 _ rfl; (with_reducible repeat (first | refine Bf ?_ _ | refine Bh ?_ | refine Bg ?_ _)); refine blk_put (cs := #[.int .i64 0, .int .i64 0, .int .i64 0, .int .i64 0, .int .i64 0, .int .i64 0, .int .i64 0]) ?_ 0 _ rfl; (with_reducible repeat (first | refine Bf ?_ _ | refine Bh ?_ | refine Bg ?_ _)); exact BK242.out) Try.underlying24 rfl (by kernel_rfl)) rfl ?_
       exact ⟨by first | rfl | (simp [errW_none, errW_some] <;> rfl) | (simp [*, errW_none, errW_some] <;> rfl), by repeat (first | (with_reducible first | exact HB.out | apply Be | apply Bc | apply Bd | refine below_set ?_ GE242.out | refine below_set ?_ GE245.out) | exact HB.out)⟩

end Go.Proofs.Ythmdblcgiljhpaa.PFnSecondsOf
