-- Written by a program of this session (wip/tool/myprint.py) out of the translation.
import Derived.Test.YthmdblcgiljhpaaPFnSecondsOfx0
import Derived.Test.YthmdblcgiljhpaaPFnSecondsOfx2
import Derived.Test.YthmdblcgiljhpaaPFnSecondsOfx4
import Derived.Test.YthmdblcgiljhpaaPFnSecondsOfx5
namespace Go.Proofs.Ythmdblcgiljhpaa.PFnSecondsOf
open Go.RowKit Go.Proofs.YthmdblcgiljhpaaW.PrintWords Go.Proofs.YthmdblcgiljhpaaW.PrintLast Go.Proofs.YthmdblcgiljhpaaW.PrintMore
open Go.Proofs.YthmdblcgiljhpaaW.PrintWords renaming blk_cell → Ba, blk_frozen → Bb, pw_below_drewN → Bc, below_drew1 → Bd, below_alloc → Be, blk_drewN → Bf, blk_alloc → Bg, blk_drew → Bh
attribute [local go_sem] max2_int min2_int max_two min_two max_three min_three max_four min_four   -- for this text's walks alone
set_option linter.unusedVariables false
set_option linter.unusedSimpArgs false

/-! ### impl_SecondsOf: function 5 -/
def impl_SecondsOf.f (k : Nat) (a0_0 : Int) (a0_1 : Int) (a0_2 : Int) (a0_3 : Int) (a0_4 : Int) (a0_5 : Int) (a0_6 : Int) : Option (Int × Bool) := (impl_DateValid.f k a0_0 a0_1 a0_2 a0_3 a0_4 a0_5 a0_6).bind fun t228 => (if t228 = true then ((impl_Date_seconds.f k a0_0 a0_1 a0_2 a0_3 a0_4 a0_5 a0_6).bind fun t229 => (some (t229, true))) else (some (0, false)))
theorem impl_SecondsOf.mono : ∀ a0 a1 a2 a3 a4 a5 a6 k, LeO (impl_SecondsOf.f k a0 a1 a2 a3 a4 a5 a6) (impl_SecondsOf.f (k + 1) a0 a1 a2 a3 a4 a5 a6) := by
 intro a0 a1 a2 a3 a4 a5 a6 k
 unfold impl_SecondsOf.f
 repeat' first
   | (with_reducible exact impl_DateValid.mono _ _ _ _ _ _ _ _)
   | (with_reducible exact impl_Date_seconds.mono _ _ _ _ _ _ _ _)
   | (with_reducible exact LeO.refl _)
   | (with_reducible exact LeO.none _)
   | (with_reducible refine LeO.ite ?_ ?_)
   | (with_reducible refine LeO.bind ?_ (fun _ => ?_))
set_option maxHeartbeats 8000000 in
set_option maxRecDepth 100000 in
theorem impl_SecondsOf.calls (k : Nat) (a0_0 : Int) (a0_1 : Int) (a0_2 : Int) (a0_3 : Int) (a0_4 : Int) (a0_5 : Int) (a0_6 : Int) (r1 : Int) (r2 : Bool) (w : World) (h : impl_SecondsOf.f k a0_0 a0_1 a0_2 a0_3 a0_4 a0_5 a0_6 = some (r1, r2)) :
  Calls Try.prog 5 #[.agg #[.int .i64 a0_0, .int .i64 a0_1, .int .i64 a0_2, .int .i64 a0_3, .int .i64 a0_4, .int .i64 a0_5, .int .i64 a0_6]] w fun e w' => e = .returned (.tuple #[.int .i64 r1, .bool r2]) ∧ Below w.heap.size w w' := by
 have hu24 := Try.underlying24
 have HB := Aside0.mk (Below.refl w.heap.size w)
 have H : ((impl_DateValid.f k a0_0 a0_1 a0_2 a0_3 a0_4 a0_5 a0_6).bind fun t228 => (if t228 = true then ((impl_Date_seconds.f k a0_0 a0_1 a0_2 a0_3 a0_4 a0_5 a0_6).bind fun t229 => (some (t229, true))) else (some (0, false)))) = some (r1, r2) := h
 clear h
 replace H := Option.bind_eq_some_iff.mp H
 obtain ⟨t228, A20, H⟩ := H
 replace H : (if t228 = true then ((impl_Date_seconds.f k a0_0 a0_1 a0_2 a0_3 a0_4 a0_5 a0_6).bind fun t229 => (some (t229, true))) else (some (0, false))) = some (r1, r2) := H
 have A2 := Aside0.mk A20
 clear A20
 by_cases c3 : t228 = true
 ·subst c3
  have H1 : ((impl_Date_seconds.f k a0_0 a0_1 a0_2 a0_3 a0_4 a0_5 a0_6).bind fun t229 => (some (t229, true))) = some (r1, r2) := by rw [if_pos rfl] at H; exact H
  clear H
  have H := H1
  clear H1
  replace H := Option.bind_eq_some_iff.mp H
  obtain ⟨t229, A40, H⟩ := H
  replace H : (some (t229, true)) = some (r1, r2) := H
  have A4 := Aside0.mk A40
  clear A40
  simp only [Option.some.injEq, Prod.mk.injEq] at H
  obtain ⟨rfl, rfl⟩ := H
  go_enter Try.func5, Try.ntmps5
  go_wp2_with (first | ((with_reducible refine gate_dst (N := 1) rfl ?_); refine box_event ?hg (N := 1) ?hd (cs := #[.int .i64 a0_0, .int .i64 a0_1, .int .i64 a0_2, .int .i64 a0_3, .int .i64 a0_4, .int .i64 a0_5, .int .i64 a0_6]) (t := 24) ?hr ?_; (case hd => rfl); (case hg => rfl); (case hr => first | (go_simp; done) | (go_simp; rfl)); intro gb227 hg w5 hbox hb; have n0_ := Aside0.mk (below_step (by repeat (first | (with_reducible first | exact HB.out | apply Be | apply Bc | apply Bd) | exact HB.out)) hb); have n1_ := Aside0.mk (hbox); have n2_ := Aside0.mk ((by rw [hg]; exact (below_size (by repeat (first | (with_reducible first | exact HB.out | apply Be | apply Bc | apply Bd) | exact HB.out))) : w.heap.size ≤ gb227)); have n3_ := Aside0.mk ((by rw [hg]; exact (below_size (by repeat (first | (with_reducible first | exact HB.out | apply Be | apply Bc | apply Bd) | exact HB.out))) : w.heap.size ≤ gb227)); clear HB; have HB := n0_; have BK227 := n1_; have GW227 := n2_; have GE227 := n3_; clear n0_ n1_ n2_ n3_; clear hb hbox hg; have hcz6_0 : w5.cell? ⟨gb227, 0, none⟩ = some (.int .i64 a0_0) := (Ba BK227.out 0).trans rfl; have hcz6_1 : w5.cell? ⟨gb227, 1, none⟩ = some (.int .i64 a0_1) := (Ba BK227.out 1).trans rfl; have hcz6_2 : w5.cell? ⟨gb227, 2, none⟩ = some (.int .i64 a0_2) := (Ba BK227.out 2).trans rfl; have hcz6_3 : w5.cell? ⟨gb227, 3, none⟩ = some (.int .i64 a0_3) := (Ba BK227.out 3).trans rfl; have hcz6_4 : w5.cell? ⟨gb227, 4, none⟩ = some (.int .i64 a0_4) := (Ba BK227.out 4).trans rfl; have hcz6_5 : w5.cell? ⟨gb227, 5, none⟩ = some (.int .i64 a0_5) := (Ba BK227.out 5).trans rfl; have hcz6_6 : w5.cell? ⟨gb227, 6, none⟩ = some (.int .i64 a0_6) := (Ba BK227.out 6).trans rfl; have hfz6_0 := Bb BK227.out 0; have hfz6_1 := Bb BK227.out 1; have hfz6_2 := Bb BK227.out 2; have hfz6_3 := Bb BK227.out 3; have hfz6_4 := Bb BK227.out 4; have hfz6_5 := Bb BK227.out 5; have hfz6_6 := Bb BK227.out 6) | ((with_reducible refine gate_callee (f := 9) rfl ?_); refine goesL_ (some 5) rfl rfl Try.func9 (by kernel_rfl) rfl #[.agg #[.int .i64 a0_0, .int .i64 a0_1, .int .i64 a0_2, .int .i64 a0_3, .int .i64 a0_4, .int .i64 a0_5, .int .i64 a0_6]] rfl (by (try simp only [List.map_toArray, List.map_cons, List.map_nil]); first | done | rfl | (simp only [List.length_drop, List.length_take]; rfl)) ?_; (with_reducible refine (impl_DateValid.calls k a0_0 a0_1 a0_2 a0_3 a0_4 a0_5 a0_6 true _ A2.out).mono ?_); rintro e w7 ⟨rfl, hb⟩; refine ⟨_, rfl, ?_⟩; have n0_ := Aside0.mk (blk_below (g := gb227) (o := .cells #[.int .i64 a0_0, .int .i64 a0_1, .int .i64 a0_2, .int .i64 a0_3, .int .i64 a0_4, .int .i64 a0_5, .int .i64 a0_6] 24 (0, 0)) (by (with_reducible repeat (first | refine Bf ?_ _ | refine Bh ?_ | refine Bg ?_ _)); exact BK227.out) hb); have n1_ := Aside0.mk (below_step (by repeat (first | (with_reducible first | exact HB.out | apply Be | apply Bc | apply Bd | refine below_set ?_ GE227.out) | exact HB.out)) hb); clear BK227; clear HB; have BK227 := n0_; have HB := n1_; clear n0_ n1_; (try clear hb); (try clear hb2); (try clear hk); (try clear hi); have hcz8_0 : w7.cell? ⟨gb227, 0, none⟩ = some (.int .i64 a0_0) := (Ba BK227.out 0).trans rfl; have hcz8_1 : w7.cell? ⟨gb227, 1, none⟩ = some (.int .i64 a0_1) := (Ba BK227.out 1).trans rfl; have hcz8_2 : w7.cell? ⟨gb227, 2, none⟩ = some (.int .i64 a0_2) := (Ba BK227.out 2).trans rfl; have hcz8_3 : w7.cell? ⟨gb227, 3, none⟩ = some (.int .i64 a0_3) := (Ba BK227.out 3).trans rfl; have hcz8_4 : w7.cell? ⟨gb227, 4, none⟩ = some (.int .i64 a0_4) := (Ba BK227.out 4).trans rfl; have hcz8_5 : w7.cell? ⟨gb227, 5, none⟩ = some (.int .i64 a0_5) := (Ba BK227.out 5).trans rfl; have hcz8_6 : w7.cell? ⟨gb227, 6, none⟩ = some (.int .i64 a0_6) := (Ba BK227.out 6).trans rfl; have hfz8_0 := Bb BK227.out 0; have hfz8_1 := Bb BK227.out 1; have hfz8_2 := Bb BK227.out 2; have hfz8_3 := Bb BK227.out 3; have hfz8_4 := Bb BK227.out 4; have hfz8_5 := Bb BK227.out 5; have hfz8_6 := Bb BK227.out 6) | ((with_reducible refine gate_callee (f := 10) rfl ?_); refine goesL_ (some 8) rfl rfl Try.func10 (by kernel_rfl) rfl #[.agg #[.int .i64 a0_0, .int .i64 a0_1, .int .i64 a0_2, .int .i64 a0_3, .int .i64 a0_4, .int .i64 a0_5, .int .i64 a0_6]] rfl (by (try simp only [List.map_toArray, List.map_cons, List.map_nil]); first | done | rfl | (simp only [List.length_drop, List.length_take]; rfl)) ?_; (with_reducible refine (impl_Date_seconds.calls k a0_0 a0_1 a0_2 a0_3 a0_4 a0_5 a0_6 t229 _ A4.out).mono ?_); rintro e w9 ⟨rfl, hb⟩; refine ⟨_, rfl, ?_⟩; have n0_ := Aside0.mk (blk_below (g := gb227) (o := .cells #[.int .i64 a0_0, .int .i64 a0_1, .int .i64 a0_2, .int .i64 a0_3, .int .i64 a0_4, .int .i64 a0_5, .int .i64 a0_6] 24 (0, 0)) (by (with_reducible repeat (first | refine Bf ?_ _ | refine Bh ?_ | refine Bg ?_ _)); exact BK227.out) hb); have n1_ := Aside0.mk (below_step (by repeat (first | (with_reducible first | exact HB.out | apply Be | apply Bc | apply Bd | refine below_set ?_ GE227.out) | exact HB.out)) hb); clear BK227; clear HB; have BK227 := n0_; have HB := n1_; clear n0_ n1_; (try clear hb); (try clear hb2); (try clear hk); (try clear hi)))
  go_ret2
  exact ⟨by first | rfl | (simp [errW_none, errW_some] <;> rfl) | (simp [*, errW_none, errW_some] <;> rfl), by repeat (first | (with_reducible first | exact HB.out | apply Be | apply Bc | apply Bd | refine below_set ?_ GE227.out) | exact HB.out)⟩
 replace c3 := Bool.eq_false_iff.mpr c3
 subst c3
 have H1 : (some (0, false)) = some (r1, r2) := by rw [if_neg (show ¬ (false = true) by decide)] at H; exact H
 clear H
 have H := H1
 clear H1
 simp only [Option.some.injEq, Prod.mk.injEq] at H
 obtain ⟨rfl, rfl⟩ := H
 go_enter Try.func5, Try.ntmps5
 go_wp2_with (first | ((with_reducible refine gate_dst (N := 1) rfl ?_); refine box_event ?hg (N := 1) ?hd (cs := #[.int .i64 a0_0, .int .i64 a0_1, .int .i64 a0_2, .int .i64 a0_3, .int .i64 a0_4, .int .i64 a0_5, .int .i64 a0_6]) (t := 24) ?hr ?_; (case hd => rfl); (case hg => rfl); (case hr => first | (go_simp; done) | (go_simp; rfl)); intro gb227 hg w10 hbox hb; have n0_ := Aside0.mk (below_step (by repeat (first | (with_reducible first | exact HB.out | apply Be | apply Bc | apply Bd) | exact HB.out)) hb); have n1_ := Aside0.mk (hbox); have n2_ := Aside0.mk ((by rw [hg]; exact (below_size (by repeat (first | (with_reducible first | exact HB.out | apply Be | apply Bc | apply Bd) | exact HB.out))) : w.heap.size ≤ gb227)); have n3_ := Aside0.mk ((by rw [hg]; exact (below_size (by repeat (first | (with_reducible first | exact HB.out | apply Be | apply Bc | apply Bd) | exact HB.out))) : w.heap.size ≤ gb227)); clear HB; have HB := n0_; have BK227 := n1_; have GW227 := n2_; have GE227 := n3_; clear n0_ n1_ n2_ n3_; clear hb hbox hg; have hcz11_0 : w10.cell? ⟨gb227, 0, none⟩ = some (.int .i64 a0_0) := (Ba BK227.out 0).trans rfl; have hcz11_1 : w10.cell? ⟨gb227, 1, none⟩ = some (.int .i64 a0_1) := (Ba BK227.out 1).trans rfl; have hcz11_2 : w10.cell? ⟨gb227, 2, none⟩ = some (.int .i64 a0_2) := (Ba BK227.out 2).trans rfl; have hcz11_3 : w10.cell? ⟨gb227, 3, none⟩ = some (.int .i64 a0_3) := (Ba BK227.out 3).trans rfl; have hcz11_4 : w10.cell? ⟨gb227, 4, none⟩ = some (.int .i64 a0_4) := (Ba BK227.out 4).trans rfl; have hcz11_5 : w10.cell? ⟨gb227, 5, none⟩ = some (.int .i64 a0_5) := (Ba BK227.out 5).trans rfl; have hcz11_6 : w10.cell? ⟨gb227, 6, none⟩ = some (.int .i64 a0_6) := (Ba BK227.out 6).trans rfl; have hfz11_0 := Bb BK227.out 0; have hfz11_1 := Bb BK227.out 1; have hfz11_2 := Bb BK227.out 2; have hfz11_3 := Bb BK227.out 3; have hfz11_4 := Bb BK227.out 4; have hfz11_5 := Bb BK227.out 5; have hfz11_6 := Bb BK227.out 6) | ((with_reducible refine gate_callee (f := 9) rfl ?_); refine goesL_ (some 5) rfl rfl Try.func9 (by kernel_rfl) rfl #[.agg #[.int .i64 a0_0, .int .i64 a0_1, .int .i64 a0_2, .int .i64 a0_3, .int .i64 a0_4, .int .i64 a0_5, .int .i64 a0_6]] rfl (by (try simp only [List.map_toArray, List.map_cons, List.map_nil]); first | done | rfl | (simp only [List.length_drop, List.length_take]; rfl)) ?_; (with_reducible refine (impl_DateValid.calls k a0_0 a0_1 a0_2 a0_3 a0_4 a0_5 a0_6 false _ A2.out).mono ?_); rintro e w12 ⟨rfl, hb⟩; refine ⟨_, rfl, ?_⟩; have n0_ := Aside0.mk (blk_below (g := gb227) (o := .cells #[.int .i64 a0_0, .int .i64 a0_1, .int .i64 a0_2, .int .i64 a0_3, .int .i64 a0_4, .int .i64 a0_5, .int .i64 a0_6] 24 (0, 0)) (by (with_reducible repeat (first | refine Bf ?_ _ | refine Bh ?_ | refine Bg ?_ _)); exact BK227.out) hb); have n1_ := Aside0.mk (below_step (by repeat (first | (with_reducible first | exact HB.out | apply Be | apply Bc | apply Bd | refine below_set ?_ GE227.out) | exact HB.out)) hb); clear BK227; clear HB; have BK227 := n0_; have HB := n1_; clear n0_ n1_; (try clear hb); (try clear hb2); (try clear hk); (try clear hi)))
 go_ret2
 exact ⟨by first | rfl | (simp [errW_none, errW_some] <;> rfl) | (simp [*, errW_none, errW_some] <;> rfl), by repeat (first | (with_reducible first | exact HB.out | apply Be | apply Bc | apply Bd | refine below_set ?_ GE227.out) | exact HB.out)⟩

/-! ### spec_l4Seconds: function 12 -/
mutual
def spec_l4Seconds.l0 : Nat → Int → Int → Int → Int → Int → Int → Int → Int → Int → Option (Int)
 | 0, _, _, _, _, _, _, _, _, _ => none
 | k + 1, x3, x4, x231000, x231001, x231002, x231003, x231004, x231005, x231006 => if x4 < x231000 then ((spec_l4Leap.f x4).bind fun t231 => (if t231 = true then (spec_l4Seconds.l0 k (wrap64 ((wrap64 (x3 + 365)) + 1)) (wrap64 (x4 + 1)) x231000 x231001 x231002 x231003 x231004 x231005 x231006) else (spec_l4Seconds.l0 k (wrap64 (x3 + 365)) (wrap64 (x4 + 1)) x231000 x231001 x231002 x231003 x231004 x231005 x231006))) else (spec_l4Seconds.l1 k x3 1 x231000 x231001 x231002 x231003 x231004 x231005 x231006)
def spec_l4Seconds.l1 : Nat → Int → Int → Int → Int → Int → Int → Int → Int → Int → Option (Int)
 | 0, _, _, _, _, _, _, _, _, _ => none
 | k + 1, x3, x5, x231000, x231001, x231002, x231003, x231004, x231005, x231006 => if x5 < x231001 then ((spec_DaysOf.f k x231000 x5).bind fun t232 => (spec_l4Seconds.l1 k (wrap64 (x3 + t232)) (wrap64 (x5 + 1)) x231000 x231001 x231002 x231003 x231004 x231005 x231006)) else (some (wrap64 ((wrap64 ((wrap64 ((wrap64 ((wrap64 (x3 * 86400)) + (wrap64 (x231003 * 3600)))) + (wrap64 (x231004 * 60)))) + x231005)) - (wrap64 (x231006 * 60)))))
end
def spec_l4Seconds.f (k : Nat) (a0_0 : Int) (a0_1 : Int) (a0_2 : Int) (a0_3 : Int) (a0_4 : Int) (a0_5 : Int) (a0_6 : Int) : Option (Int) := spec_l4Seconds.l0 k (wrap64 (a0_2 - 1)) 1970 a0_0 a0_1 a0_2 a0_3 a0_4 a0_5 a0_6
theorem spec_l4Seconds.mono_l : ∀ k, (∀ y0 y1 y2 y3 y4 y5 y6 y7 y8, LeO (spec_l4Seconds.l0 k y0 y1 y2 y3 y4 y5 y6 y7 y8) (spec_l4Seconds.l0 (k + 1) y0 y1 y2 y3 y4 y5 y6 y7 y8)) ∧ (∀ y0 y1 y2 y3 y4 y5 y6 y7 y8, LeO (spec_l4Seconds.l1 k y0 y1 y2 y3 y4 y5 y6 y7 y8) (spec_l4Seconds.l1 (k + 1) y0 y1 y2 y3 y4 y5 y6 y7 y8))
 | 0 => ⟨fun _ _ _ _ _ _ _ _ _ r h => by simp [spec_l4Seconds.l0] at h, fun _ _ _ _ _ _ _ _ _ r h => by simp [spec_l4Seconds.l1] at h⟩
 | k + 1 => by
  obtain ⟨ih0, ih1⟩ := spec_l4Seconds.mono_l k
  refine ⟨?_, ?_⟩
  ·intro y0 y1 y2 y3 y4 y5 y6 y7 y8
   unfold spec_l4Seconds.l0
   repeat' first
   | (with_reducible exact ih0 _ _ _ _ _ _ _ _ _)
   | (with_reducible exact ih1 _ _ _ _ _ _ _ _ _)
   | (with_reducible exact spec_DaysOf.mono _ _ _)
   | (with_reducible exact LeO.refl _)
   | (with_reducible exact LeO.none _)
   | (with_reducible refine LeO.ite ?_ ?_)
   | (with_reducible refine LeO.bind ?_ (fun _ => ?_))
  intro y0 y1 y2 y3 y4 y5 y6 y7 y8
  unfold spec_l4Seconds.l1
  repeat' first
  | (with_reducible exact ih0 _ _ _ _ _ _ _ _ _)
  | (with_reducible exact ih1 _ _ _ _ _ _ _ _ _)
  | (with_reducible exact spec_DaysOf.mono _ _ _)
  | (with_reducible exact LeO.refl _)
  | (with_reducible exact LeO.none _)
  | (with_reducible refine LeO.ite ?_ ?_)
  | (with_reducible refine LeO.bind ?_ (fun _ => ?_))
theorem spec_l4Seconds.mono : ∀ a0 a1 a2 a3 a4 a5 a6 k, LeO (spec_l4Seconds.f k a0 a1 a2 a3 a4 a5 a6) (spec_l4Seconds.f (k + 1) a0 a1 a2 a3 a4 a5 a6) := by
 intro a0 a1 a2 a3 a4 a5 a6 k
 obtain ⟨ih0, ih1⟩ := spec_l4Seconds.mono_l k
 unfold spec_l4Seconds.f
 repeat' first
   | (with_reducible exact ih0 _ _ _ _ _ _ _ _ _)
   | (with_reducible exact ih1 _ _ _ _ _ _ _ _ _)
   | (with_reducible exact spec_DaysOf.mono _ _ _)
   | (with_reducible exact LeO.refl _)
   | (with_reducible exact LeO.none _)
   | (with_reducible refine LeO.ite ?_ ?_)
   | (with_reducible refine LeO.bind ?_ (fun _ => ?_))
set_option maxHeartbeats 8000000 in
set_option maxRecDepth 100000 in
theorem spec_l4Seconds.calls (k : Nat) (a0_0 : Int) (a0_1 : Int) (a0_2 : Int) (a0_3 : Int) (a0_4 : Int) (a0_5 : Int) (a0_6 : Int) (r : Int) (w : World) (h : spec_l4Seconds.f k a0_0 a0_1 a0_2 a0_3 a0_4 a0_5 a0_6 = some r) :
  Calls Try.prog 12 #[.agg #[.int .i64 a0_0, .int .i64 a0_1, .int .i64 a0_2, .int .i64 a0_3, .int .i64 a0_4, .int .i64 a0_5, .int .i64 a0_6]] w fun e w' => e = .returned (.int .i64 r) ∧ Below w.heap.size w w' := by
 have hu24 := Try.underlying24
 have HB := Aside0.mk (Below.refl w.heap.size w)
 have H : (spec_l4Seconds.l0 k (wrap64 (a0_2 - 1)) 1970 a0_0 a0_1 a0_2 a0_3 a0_4 a0_5 a0_6) = some r := h
 clear h
 have H' := Aside0.mk H
 clear H
 go_enter Try.func12, Try.ntmps12
 go_wp2_with (first | ((with_reducible refine gate_dst (N := 1) rfl ?_); refine box_event ?hg (N := 1) ?hd (cs := #[.int .i64 a0_0, .int .i64 a0_1, .int .i64 a0_2, .int .i64 a0_3, .int .i64 a0_4, .int .i64 a0_5, .int .i64 a0_6]) (t := 24) ?hr ?_; (case hd => rfl); (case hg => rfl); (case hr => first | (go_simp; done) | (go_simp; rfl)); intro gb230 hg w2 hbox hb; have n0_ := Aside0.mk (below_step (by repeat (first | (with_reducible first | exact HB.out | apply Be | apply Bc | apply Bd) | exact HB.out)) hb); have n1_ := Aside0.mk (hbox); have n2_ := Aside0.mk ((by rw [hg]; exact (below_size (by repeat (first | (with_reducible first | exact HB.out | apply Be | apply Bc | apply Bd) | exact HB.out))) : w.heap.size ≤ gb230)); have n3_ := Aside0.mk ((by rw [hg]; exact (below_size (by repeat (first | (with_reducible first | exact HB.out | apply Be | apply Bc | apply Bd) | exact HB.out))) : w.heap.size ≤ gb230)); clear HB; have HB := n0_; have BK230 := n1_; have GW230 := n2_; have GE230 := n3_; clear n0_ n1_ n2_ n3_; clear hb hbox hg; have hcz3_0 : w2.cell? ⟨gb230, 0, none⟩ = some (.int .i64 a0_0) := (Ba BK230.out 0).trans rfl; have hcz3_1 : w2.cell? ⟨gb230, 1, none⟩ = some (.int .i64 a0_1) := (Ba BK230.out 1).trans rfl; have hcz3_2 : w2.cell? ⟨gb230, 2, none⟩ = some (.int .i64 a0_2) := (Ba BK230.out 2).trans rfl; have hcz3_3 : w2.cell? ⟨gb230, 3, none⟩ = some (.int .i64 a0_3) := (Ba BK230.out 3).trans rfl; have hcz3_4 : w2.cell? ⟨gb230, 4, none⟩ = some (.int .i64 a0_4) := (Ba BK230.out 4).trans rfl; have hcz3_5 : w2.cell? ⟨gb230, 5, none⟩ = some (.int .i64 a0_5) := (Ba BK230.out 5).trans rfl; have hcz3_6 : w2.cell? ⟨gb230, 6, none⟩ = some (.int .i64 a0_6) := (Ba BK230.out 6).trans rfl; have hfz3_0 := Bb BK230.out 0; have hfz3_1 := Bb BK230.out 1; have hfz3_2 := Bb BK230.out 2; have hfz3_3 := Bb BK230.out 3; have hfz3_4 := Bb BK230.out 4; have hfz3_5 := Bb BK230.out 5; have hfz3_6 := Bb BK230.out 6))
 go_loopg [3, 4] k (fun kq v3 v4 w' => ∃ (x3_1 : Int) (x4_1 : Int), v3 = .int .i64 x3_1 ∧ v4 = .int .i64 x4_1 ∧ Aside0 (spec_l4Seconds.l0 kq x3_1 x4_1 a0_0 a0_1 a0_2 a0_3 a0_4 a0_5 a0_6 = some r) ∧ Aside0 (kq ≤ k) ∧ Aside0 (w'.heap[gb230]? = some (.cells #[.int .i64 a0_0, .int .i64 a0_1, .int .i64 a0_2, .int .i64 a0_3, .int .i64 a0_4, .int .i64 a0_5, .int .i64 a0_6] 24 (0, 0))) ∧ Aside0 (Below w.heap.size w w'))
 case atStart => exact ⟨(wrap64 (a0_2 - 1)), (1970), (by first | rfl | (simp; done) | (simp [*]; done)), (by first | rfl | (simp; done) | (simp [*]; done)), H', ⟨Nat.le_refl _⟩, ⟨by (with_reducible repeat (first | refine Bf ?_ _ | refine Bh ?_ | refine Bg ?_ _)); exact BK230.out⟩, ⟨by repeat (first | (with_reducible first | exact HB.out | apply Be | apply Bc | apply Bd | refine below_set ?_ GE230.out) | exact HB.out)⟩⟩
 case round =>
  clear H'
  try clear c1
  try clear p2
  try clear hcz3_0
  try clear hcz3_1
  try clear hcz3_2
  try clear hcz3_3
  try clear hcz3_4
  try clear hcz3_5
  try clear hcz3_6
  try clear hfz3_0
  try clear hfz3_1
  try clear hfz3_2
  try clear hfz3_3
  try clear hfz3_4
  try clear hfz3_5
  try clear hfz3_6
  obtain ⟨x3_1, x4_1, rfl, rfl, HA, HK1, BK230, HB⟩ := hrel
  cases gk with
  | zero => exact absurd HA.out (by simp [spec_l4Seconds.l0])
  | succ k1 =>
   have H := HA.out; clear HA
   simp only [spec_l4Seconds.l0] at H
   by_cases c4 : x4_1 < a0_0
   ·rw [if_pos c4] at H
    have c4b0 : decide (x4_1 < a0_0) = true := decide_eq_true c4
    clear c4; replace H := Option.bind_eq_some_iff.mp H
    obtain ⟨t231, A50, H⟩ := H
    replace H : (if t231 = true then (spec_l4Seconds.l0 k1 (wrap64 ((wrap64 (x3_1 + 365)) + 1)) (wrap64 (x4_1 + 1)) a0_0 a0_1 a0_2 a0_3 a0_4 a0_5 a0_6) else (spec_l4Seconds.l0 k1 (wrap64 (x3_1 + 365)) (wrap64 (x4_1 + 1)) a0_0 a0_1 a0_2 a0_3 a0_4 a0_5 a0_6)) = some r := H
    have A5 := Aside0.mk A50; clear A50
    by_cases c6 : t231 = true
    ·subst c6
     have H1 : (spec_l4Seconds.l0 k1 (wrap64 ((wrap64 (x3_1 + 365)) + 1)) (wrap64 (x4_1 + 1)) a0_0 a0_1 a0_2 a0_3 a0_4 a0_5 a0_6) = some r := by rw [if_pos rfl] at H; exact H
     clear H; have H := H1; clear H1
     have H' := Aside0.mk H
     clear H
     have hcz7_0 : wr.cell? ⟨gb230, 0, none⟩ = some (.int .i64 a0_0) := (Ba BK230.out 0).trans rfl
     have hcz7_1 : wr.cell? ⟨gb230, 1, none⟩ = some (.int .i64 a0_1) := (Ba BK230.out 1).trans rfl
     have hcz7_2 : wr.cell? ⟨gb230, 2, none⟩ = some (.int .i64 a0_2) := (Ba BK230.out 2).trans rfl
     have hcz7_3 : wr.cell? ⟨gb230, 3, none⟩ = some (.int .i64 a0_3) := (Ba BK230.out 3).trans rfl
     have hcz7_4 : wr.cell? ⟨gb230, 4, none⟩ = some (.int .i64 a0_4) := (Ba BK230.out 4).trans rfl
     have hcz7_5 : wr.cell? ⟨gb230, 5, none⟩ = some (.int .i64 a0_5) := (Ba BK230.out 5).trans rfl
     have hcz7_6 : wr.cell? ⟨gb230, 6, none⟩ = some (.int .i64 a0_6) := (Ba BK230.out 6).trans rfl
     have hfz7_0 := Bb BK230.out 0; have hfz7_1 := Bb BK230.out 1; have hfz7_2 := Bb BK230.out 2; have hfz7_3 := Bb BK230.out 3; have hfz7_4 := Bb BK230.out 4; have hfz7_5 := Bb BK230.out 5; have hfz7_6 := Bb BK230.out 6
     go_wp2_with (first | ((with_reducible refine gate_callee (f := 21) rfl ?_); refine goesL_ (some 18) rfl rfl Try.func21 (by kernel_rfl) rfl #[.int .i64 x4_1] rfl (by (try simp only [List.map_toArray, List.map_cons, List.map_nil]); first | done | rfl | (simp only [List.length_drop, List.length_take]; rfl)) ?_; (with_reducible refine (spec_l4Leap.calls x4_1 true _ A5.out).mono ?_); rintro e w' ⟨rfl, ⟨nd, rfl⟩⟩; refine ⟨_, rfl, ?_⟩))
     go_roundg k1
     case measure => have := HK1.out; omega
     case rel => exact ⟨(wrap64 ((wrap64 (x3_1 + 365)) + 1)), (wrap64 (x4_1 + 1)), (by first | rfl | (simp; done) | (simp [*]; done)), (by first | rfl | (simp; done) | (simp [*]; done)), H', ⟨by have := HK1.out; omega⟩, ⟨by (with_reducible repeat (first | refine Bf ?_ _ | refine Bh ?_ | refine Bg ?_ _)); exact BK230.out⟩, ⟨by repeat (first | (with_reducible first | exact HB.out | apply Be | apply Bc | apply Bd | refine below_set ?_ GE230.out) | exact HB.out)⟩⟩
    replace c6 := Bool.eq_false_iff.mpr c6
    subst c6
    have H1 : (spec_l4Seconds.l0 k1 (wrap64 (x3_1 + 365)) (wrap64 (x4_1 + 1)) a0_0 a0_1 a0_2 a0_3 a0_4 a0_5 a0_6) = some r := by rw [if_neg (show ¬ (false = true) by decide)] at H; exact H
    clear H; have H := H1; clear H1
    have H' := Aside0.mk H
    clear H
    have hcz8_0 : wr.cell? ⟨gb230, 0, none⟩ = some (.int .i64 a0_0) := (Ba BK230.out 0).trans rfl
    have hcz8_1 : wr.cell? ⟨gb230, 1, none⟩ = some (.int .i64 a0_1) := (Ba BK230.out 1).trans rfl
    have hcz8_2 : wr.cell? ⟨gb230, 2, none⟩ = some (.int .i64 a0_2) := (Ba BK230.out 2).trans rfl
    have hcz8_3 : wr.cell? ⟨gb230, 3, none⟩ = some (.int .i64 a0_3) := (Ba BK230.out 3).trans rfl
    have hcz8_4 : wr.cell? ⟨gb230, 4, none⟩ = some (.int .i64 a0_4) := (Ba BK230.out 4).trans rfl
    have hcz8_5 : wr.cell? ⟨gb230, 5, none⟩ = some (.int .i64 a0_5) := (Ba BK230.out 5).trans rfl
    have hcz8_6 : wr.cell? ⟨gb230, 6, none⟩ = some (.int .i64 a0_6) := (Ba BK230.out 6).trans rfl
    have hfz8_0 := Bb BK230.out 0; have hfz8_1 := Bb BK230.out 1; have hfz8_2 := Bb BK230.out 2; have hfz8_3 := Bb BK230.out 3; have hfz8_4 := Bb BK230.out 4; have hfz8_5 := Bb BK230.out 5; have hfz8_6 := Bb BK230.out 6
    go_wp2_with (first | ((with_reducible refine gate_callee (f := 21) rfl ?_); refine goesL_ (some 18) rfl rfl Try.func21 (by kernel_rfl) rfl #[.int .i64 x4_1] rfl (by (try simp only [List.map_toArray, List.map_cons, List.map_nil]); first | done | rfl | (simp only [List.length_drop, List.length_take]; rfl)) ?_; (with_reducible refine (spec_l4Leap.calls x4_1 false _ A5.out).mono ?_); rintro e w' ⟨rfl, ⟨nd, rfl⟩⟩; refine ⟨_, rfl, ?_⟩))
    go_roundg k1
    case measure => have := HK1.out; omega
    case rel => exact ⟨(wrap64 (x3_1 + 365)), (wrap64 (x4_1 + 1)), (by first | rfl | (simp; done) | (simp [*]; done)), (by first | rfl | (simp; done) | (simp [*]; done)), H', ⟨by have := HK1.out; omega⟩, ⟨by (with_reducible repeat (first | refine Bf ?_ _ | refine Bh ?_ | refine Bg ?_ _)); exact BK230.out⟩, ⟨by repeat (first | (with_reducible first | exact HB.out | apply Be | apply Bc | apply Bd | refine below_set ?_ GE230.out) | exact HB.out)⟩⟩
   rw [if_neg c4] at H
   have c4b0 : decide (x4_1 < a0_0) = false := decide_eq_false c4
   clear c4
   have H' := Aside0.mk H
   clear H
   have hcz9_0 : wr.cell? ⟨gb230, 0, none⟩ = some (.int .i64 a0_0) := (Ba BK230.out 0).trans rfl
   have hcz9_1 : wr.cell? ⟨gb230, 1, none⟩ = some (.int .i64 a0_1) := (Ba BK230.out 1).trans rfl
   have hcz9_2 : wr.cell? ⟨gb230, 2, none⟩ = some (.int .i64 a0_2) := (Ba BK230.out 2).trans rfl
   have hcz9_3 : wr.cell? ⟨gb230, 3, none⟩ = some (.int .i64 a0_3) := (Ba BK230.out 3).trans rfl
   have hcz9_4 : wr.cell? ⟨gb230, 4, none⟩ = some (.int .i64 a0_4) := (Ba BK230.out 4).trans rfl
   have hcz9_5 : wr.cell? ⟨gb230, 5, none⟩ = some (.int .i64 a0_5) := (Ba BK230.out 5).trans rfl
   have hcz9_6 : wr.cell? ⟨gb230, 6, none⟩ = some (.int .i64 a0_6) := (Ba BK230.out 6).trans rfl
   have hfz9_0 := Bb BK230.out 0; have hfz9_1 := Bb BK230.out 1; have hfz9_2 := Bb BK230.out 2; have hfz9_3 := Bb BK230.out 3; have hfz9_4 := Bb BK230.out 4; have hfz9_5 := Bb BK230.out 5; have hfz9_6 := Bb BK230.out 6
   go_wp2
   go_loopg [3, 5] k1 (fun kq v3 v5 w' => ∃ (x3_2 : Int) (x5_2 : Int), v3 = .int .i64 x3_2 ∧ v5 = .int .i64 x5_2 ∧ Aside0 (spec_l4Seconds.l1 kq x3_2 x5_2 a0_0 a0_1 a0_2 a0_3 a0_4 a0_5 a0_6 = some r) ∧ Aside0 (kq ≤ k1) ∧ Aside0 (w'.heap[gb230]? = some (.cells #[.int .i64 a0_0, .int .i64 a0_1, .int .i64 a0_2, .int .i64 a0_3, .int .i64 a0_4, .int .i64 a0_5, .int .i64 a0_6] 24 (0, 0))) ∧ Aside0 (Below w.heap.size w w'))
   case atStart => exact ⟨(x3_1), (1), (by first | rfl | (simp; done) | (simp [*]; done)), (by first | rfl | (simp; done) | (simp [*]; done)), H', ⟨Nat.le_refl _⟩, ⟨by (with_reducible repeat (first | refine Bf ?_ _ | refine Bh ?_ | refine Bg ?_ _)); exact BK230.out⟩, ⟨by repeat (first | (with_reducible first | exact HB.out | apply Be | apply Bc | apply Bd | refine below_set ?_ GE230.out) | exact HB.out)⟩⟩
   case round =>
    clear H'
    try clear c1
    try clear c2
    try clear p2
    try clear c4
    try clear c4b0
    try clear c6
    try clear p6
    try clear hcz3_0
    try clear hcz3_1
    try clear hcz3_2
    try clear hcz3_3
    try clear hcz3_4
    try clear hcz3_5
    try clear hcz3_6
    try clear hcz7_0
    try clear hcz7_1
    try clear hcz7_2
    try clear hcz7_3
    try clear hcz7_4
    try clear hcz7_5
    try clear hcz7_6
    try clear hcz8_0
    try clear hcz8_1
    try clear hcz8_2
    try clear hcz8_3
    try clear hcz8_4
    try clear hcz8_5
    try clear hcz8_6
    try clear hcz9_0
    try clear hcz9_1
    try clear hcz9_2
    try clear hcz9_3
    try clear hcz9_4
    try clear hcz9_5
    try clear hcz9_6
    try clear hfz3_0
    try clear hfz3_1
    try clear hfz3_2
    try clear hfz3_3
    try clear hfz3_4
    try clear hfz3_5
    try clear hfz3_6
    try clear hfz7_0
    try clear hfz7_1
    try clear hfz7_2
    try clear hfz7_3
    try clear hfz7_4
    try clear hfz7_5
    try clear hfz7_6
    try clear hfz8_0
    try clear hfz8_1
    try clear hfz8_2
    try clear hfz8_3
    try clear hfz8_4
    try clear hfz8_5
    try clear hfz8_6
    try clear hfz9_0
    try clear hfz9_1
    try clear hfz9_2
    try clear hfz9_3
    try clear hfz9_4
    try clear hfz9_5
    try clear hfz9_6
    try clear p2
    obtain ⟨x3_2, x5_2, rfl, rfl, HA, HK2, BK230, HB⟩ := hrel
    cases gk with
    | zero => exact absurd HA.out (by simp [spec_l4Seconds.l1])
    | succ k2 =>
     have H := HA.out; clear HA
     simp only [spec_l4Seconds.l1] at H
     by_cases c10 : x5_2 < a0_1
     ·rw [if_pos c10] at H
      have c10b0 : decide (x5_2 < a0_1) = true := decide_eq_true c10
      clear c10; replace H := Option.bind_eq_some_iff.mp H
      obtain ⟨t232, A110, H⟩ := H
      replace H : (spec_l4Seconds.l1 k2 (wrap64 (x3_2 + t232)) (wrap64 (x5_2 + 1)) a0_0 a0_1 a0_2 a0_3 a0_4 a0_5 a0_6) = some r := H
      have A11 := Aside0.mk A110; clear A110
      have H' := Aside0.mk H
      clear H
      have hcz12_0 : wr.cell? ⟨gb230, 0, none⟩ = some (.int .i64 a0_0) := (Ba BK230.out 0).trans rfl
      have hcz12_1 : wr.cell? ⟨gb230, 1, none⟩ = some (.int .i64 a0_1) := (Ba BK230.out 1).trans rfl
      have hcz12_2 : wr.cell? ⟨gb230, 2, none⟩ = some (.int .i64 a0_2) := (Ba BK230.out 2).trans rfl
      have hcz12_3 : wr.cell? ⟨gb230, 3, none⟩ = some (.int .i64 a0_3) := (Ba BK230.out 3).trans rfl
      have hcz12_4 : wr.cell? ⟨gb230, 4, none⟩ = some (.int .i64 a0_4) := (Ba BK230.out 4).trans rfl
      have hcz12_5 : wr.cell? ⟨gb230, 5, none⟩ = some (.int .i64 a0_5) := (Ba BK230.out 5).trans rfl
      have hcz12_6 : wr.cell? ⟨gb230, 6, none⟩ = some (.int .i64 a0_6) := (Ba BK230.out 6).trans rfl
      have hfz12_0 := Bb BK230.out 0; have hfz12_1 := Bb BK230.out 1; have hfz12_2 := Bb BK230.out 2; have hfz12_3 := Bb BK230.out 3; have hfz12_4 := Bb BK230.out 4; have hfz12_5 := Bb BK230.out 5; have hfz12_6 := Bb BK230.out 6
      go_wp2_with (first | ((with_reducible refine gate_callee (f := 22) rfl ?_); refine goesL_ (some 31) rfl rfl Try.func22 (by kernel_rfl) rfl #[.int .i64 a0_0, .int .i64 x5_2] rfl (by (try simp only [List.map_toArray, List.map_cons, List.map_nil]); first | done | rfl | (simp only [List.length_drop, List.length_take]; rfl)) ?_; (with_reducible refine (spec_DaysOf.calls k2 a0_0 x5_2 t232 _ A11.out).mono ?_); rintro e w13 ⟨rfl, hb⟩; refine ⟨_, rfl, ?_⟩; have n0_ := Aside0.mk (blk_below (g := gb230) (o := .cells #[.int .i64 a0_0, .int .i64 a0_1, .int .i64 a0_2, .int .i64 a0_3, .int .i64 a0_4, .int .i64 a0_5, .int .i64 a0_6] 24 (0, 0)) (by (with_reducible repeat (first | refine Bf ?_ _ | refine Bh ?_ | refine Bg ?_ _)); exact BK230.out) hb); have n1_ := Aside0.mk (below_step (by repeat (first | (with_reducible first | exact HB.out | apply Be | apply Bc | apply Bd | refine below_set ?_ GE230.out) | exact HB.out)) hb); clear BK230; clear HB; have BK230 := n0_; have HB := n1_; clear n0_ n1_; (try clear hb); (try clear hb2); (try clear hk); (try clear hi)))
      go_roundg k2
      case measure => have := HK1.out; have := HK2.out; omega
      case rel => exact ⟨(wrap64 (x3_2 + t232)), (wrap64 (x5_2 + 1)), (by first | rfl | (simp; done) | (simp [*]; done)), (by first | rfl | (simp; done) | (simp [*]; done)), H', ⟨by have := HK1.out; have := HK2.out; omega⟩, ⟨by (with_reducible repeat (first | refine Bf ?_ _ | refine Bh ?_ | refine Bg ?_ _)); exact BK230.out⟩, ⟨by repeat (first | (with_reducible first | exact HB.out | apply Be | apply Bc | apply Bd | refine below_set ?_ GE230.out) | exact HB.out)⟩⟩
     rw [if_neg c10] at H
     have c10b0 : decide (x5_2 < a0_1) = false := decide_eq_false c10
     clear c10
     obtain rfl := Option.some.inj H
     have hcz14_0 : wr.cell? ⟨gb230, 0, none⟩ = some (.int .i64 a0_0) := (Ba BK230.out 0).trans rfl
     have hcz14_1 : wr.cell? ⟨gb230, 1, none⟩ = some (.int .i64 a0_1) := (Ba BK230.out 1).trans rfl
     have hcz14_2 : wr.cell? ⟨gb230, 2, none⟩ = some (.int .i64 a0_2) := (Ba BK230.out 2).trans rfl
     have hcz14_3 : wr.cell? ⟨gb230, 3, none⟩ = some (.int .i64 a0_3) := (Ba BK230.out 3).trans rfl
     have hcz14_4 : wr.cell? ⟨gb230, 4, none⟩ = some (.int .i64 a0_4) := (Ba BK230.out 4).trans rfl
     have hcz14_5 : wr.cell? ⟨gb230, 5, none⟩ = some (.int .i64 a0_5) := (Ba BK230.out 5).trans rfl
     have hcz14_6 : wr.cell? ⟨gb230, 6, none⟩ = some (.int .i64 a0_6) := (Ba BK230.out 6).trans rfl
     have hfz14_0 := Bb BK230.out 0; have hfz14_1 := Bb BK230.out 1; have hfz14_2 := Bb BK230.out 2; have hfz14_3 := Bb BK230.out 3; have hfz14_4 := Bb BK230.out 4; have hfz14_5 := Bb BK230.out 5; have hfz14_6 := Bb BK230.out 6
     go_wp2
     go_ret
     exact ⟨by first | rfl | (simp [errW_none, errW_some] <;> rfl) | (simp [*, errW_none, errW_some] <;> rfl), by repeat (first | (with_reducible first | exact HB.out | apply Be | apply Bc | apply Bd | refine below_set ?_ GE230.out) | exact HB.out)⟩

end Go.Proofs.Ythmdblcgiljhpaa.PFnSecondsOf
