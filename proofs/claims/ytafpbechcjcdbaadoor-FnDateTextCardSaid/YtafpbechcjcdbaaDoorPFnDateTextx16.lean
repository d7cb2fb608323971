-- By a program of this session.
import Derived.Test.YtafpbechcjcdbaaDoorPFnDateTextx0
import Derived.Test.YtafpbechcjcdbaaDoorPFnDateTextx15
namespace Go.Proofs.YtafpbechcjcdbaaDoor.PFnDateText
open Go.RowKit Go.Proofs.YtafpbechcjcdbaaDoorW.PrintWords Go.Proofs.YtafpbechcjcdbaaDoorW.PrintLast Go.Proofs.YtafpbechcjcdbaaDoorW.PrintMore
open Go.Proofs.YtafpbechcjcdbaaDoorW.PrintWords renaming blk_cell → Ba, blk_frozen → Bb, pw_below_drewN → Bc, below_drew1 → Bd, below_alloc → Be, blk_drewN → Bf, blk_alloc → Bg, blk_drew → Bh
attribute [local go_sem] max2_int min2_int max_two min_two max_three min_three max_four min_four
set_option linter.unusedVariables false
set_option linter.unusedSimpArgs false
def spec_l4Time.j0 : Nat → List ByteArray → Bool → Int → Int → Int → Int → Int → Int → Int → Option (Int × Int × Int × Int × Int × Int × Int × Bool)
 | 0, _, _, _, _, _, _, _, _, _ => none
 | k + 1, x6, x22, x303000, x303001, x303002, x303003, x303004, x303005, x303006 => if x22 = true then (some (x303000, x303001, x303002, x303003, x303004, x303005, x303006, false)) else (if 0 < (x6.length : Int) then ((spec_l4Digits.f k (rdOf ByteArray.empty x6 0) 2 2).bind fun bt308 => (if 1 < (x6.length : Int) then ((spec_l4Digits.f k (rdOf ByteArray.empty x6 1) 2 2).bind fun bt311 => (if (x6.length : Int) = 3 then (if 2 < (x6.length : Int) then ((spec_l4Digits.f k (rdOf ByteArray.empty x6 2) 2 2).bind fun bt314 => (if bt308.2 = true then (if bt311.2 = true then (some (x303000, x303001, x303002, bt308.1, bt311.1, bt314.1, x303006, bt314.2)) else (some (x303000, x303001, x303002, bt308.1, bt311.1, bt314.1, x303006, false))) else (some (x303000, x303001, x303002, bt308.1, bt311.1, bt314.1, x303006, false)))) else (none)) else (if bt308.2 = true then (if bt311.2 = true then (some (x303000, x303001, x303002, bt308.1, bt311.1, 0, x303006, true)) else (some (x303000, x303001, x303002, bt308.1, bt311.1, 0, x303006, false))) else (some (x303000, x303001, x303002, bt308.1, bt311.1, 0, x303006, false))))) else (none))) else (none))
def spec_l4Time.f (k : Nat) (a0 : ByteArray) (a1_0 : Int) (a1_1 : Int) (a1_2 : Int) (a1_3 : Int) (a1_4 : Int) (a1_5 : Int) (a1_6 : Int) : Option (Int × Int × Int × Int × Int × Int × Int × Bool) := (spec_l2Parts.f k a0 58).bind fun t304 => (if (t304.length : Int) < 2 then (spec_l4Time.j0 k t304 true a1_0 a1_1 a1_2 a1_3 a1_4 a1_5 a1_6) else (spec_l4Time.j0 k t304 (decide ((t304.length : Int) > 3)) a1_0 a1_1 a1_2 a1_3 a1_4 a1_5 a1_6))
theorem spec_l4Time.mono_l : ∀ k, (∀ y0 y1 y2 y3 y4 y5 y6 y7 y8, LeO (spec_l4Time.j0 k y0 y1 y2 y3 y4 y5 y6 y7 y8) (spec_l4Time.j0 (k + 1) y0 y1 y2 y3 y4 y5 y6 y7 y8))
 | 0 => fun _ _ _ _ _ _ _ _ _ r h => by simp [spec_l4Time.j0] at h
 | k + 1 => by
  have ih0 := spec_l4Time.mono_l k
  intro y0 y1 y2 y3 y4 y5 y6 y7 y8
  unfold spec_l4Time.j0
  repeat' first
  | (with_reducible exact ih0 _ _ _ _ _ _ _ _ _)
  | (with_reducible exact spec_l2Parts.mono _ _ _)
  | (with_reducible exact spec_l4Digits.mono _ _ _ _)
  | (with_reducible exact LeO.refl _)
  | (with_reducible exact LeO.none _)
  | (with_reducible refine LeO.ite ?_ ?_)
  | (with_reducible refine LeO.bind ?_ (fun _ => ?_))
theorem spec_l4Time.mono : ∀ a0 a1 a2 a3 a4 a5 a6 a7 k, LeO (spec_l4Time.f k a0 a1 a2 a3 a4 a5 a6 a7) (spec_l4Time.f (k + 1) a0 a1 a2 a3 a4 a5 a6 a7) := by
 intro a0 a1 a2 a3 a4 a5 a6 a7 k
 have ih0 := spec_l4Time.mono_l k
 unfold spec_l4Time.f
 repeat' first
   | (with_reducible exact ih0 _ _ _ _ _ _ _ _ _)
   | (with_reducible exact spec_l2Parts.mono _ _ _)
   | (with_reducible exact spec_l4Digits.mono _ _ _ _)
   | (with_reducible exact LeO.refl _)
   | (with_reducible exact LeO.none _)
   | (with_reducible refine LeO.ite ?_ ?_)
   | (with_reducible refine LeO.bind ?_ (fun _ => ?_))
set_option maxHeartbeats 8000000 in
set_option maxRecDepth 100000 in
theorem spec_l4Time.calls (k : Nat) (a0 : ByteArray) (a1_0 : Int) (a1_1 : Int) (a1_2 : Int) (a1_3 : Int) (a1_4 : Int) (a1_5 : Int) (a1_6 : Int) (r1 : Int) (r2 : Int) (r3 : Int) (r4 : Int) (r5 : Int) (r6 : Int) (r7 : Int) (r8 : Bool) (w : World) (h : spec_l4Time.f k a0 a1_0 a1_1 a1_2 a1_3 a1_4 a1_5 a1_6 = some (r1, r2, r3, r4, r5, r6, r7, r8)) :
  Calls Tryd.prog 46 #[.string a0, .agg #[.int .i64 a1_0, .int .i64 a1_1, .int .i64 a1_2, .int .i64 a1_3, .int .i64 a1_4, .int .i64 a1_5, .int .i64 a1_6]] w fun e w' => e = .returned (.tuple #[.agg #[.int .i64 r1, .int .i64 r2, .int .i64 r3, .int .i64 r4, .int .i64 r5, .int .i64 r6, .int .i64 r7], .bool r8]) ∧ Below w.heap.size w w' := by
 have hu24 := Tryd.underlying24
 have HB := Aside0.mk (Below.refl w.heap.size w)
 have H : ((spec_l2Parts.f k a0 58).bind fun t304 => (if (t304.length : Int) < 2 then (spec_l4Time.j0 k t304 true a1_0 a1_1 a1_2 a1_3 a1_4 a1_5 a1_6) else (spec_l4Time.j0 k t304 (decide ((t304.length : Int) > 3)) a1_0 a1_1 a1_2 a1_3 a1_4 a1_5 a1_6))) = some (r1, r2, r3, r4, r5, r6, r7, r8) := h
 clear h
 replace H := Option.bind_eq_some_iff.mp H
 obtain ⟨t304, A30, H⟩ := H
 (try dsimp only at H)
 have A3 := Aside0.mk A30
 clear A30
 have HC4 := Aside0.mk H
 clear H
 go_enter Tryd.func46, Tryd.ntmps46
 go_upto_region 2 with (first | ((with_reducible refine gate_dst (N := 3) rfl ?_); (try (refine gate_guard (by rfl) ?_; dsimp only)); refine box_event ?hg (N := 3) ?hd (cs := #[.int .i64 a1_0, .int .i64 a1_1, .int .i64 a1_2, .int .i64 a1_3, .int .i64 a1_4, .int .i64 a1_5, .int .i64 a1_6]) (t := 24) ?hr ?_; (case hd => rfl); (case hg => rfl); (case hr => first | (go_simp; done) | (go_simp; rfl)); intro gb302 hg w5 hbox hb; have n0_ := Aside0.mk (below_step (by repeat (with_reducible first | exact HB.out | apply Be | apply Bc | apply Bd)) hb); have n1_ := Aside0.mk (hbox); have n2_ := Aside0.mk ((by rw [hg]; exact (below_size (by repeat (with_reducible first | exact HB.out | apply Be | apply Bc | apply Bd))) : w.heap.size ≤ gb302)); have n3_ := n2_; clear HB; have HB := n0_; have BK302 := n1_; have GW302 := n2_; have GE302 := n3_; clear n0_ n1_ n2_ n3_; clear hb hbox hg) | ((with_reducible refine gate_dst (N := 4) rfl ?_); (try (refine gate_guard (by rfl) ?_; dsimp only)); refine box_event ?hg (N := 4) ?hd (cs := #[.int .i64 0, .int .i64 0, .int .i64 0, .int .i64 0, .int .i64 0, .int .i64 0, .int .i64 0]) (t := 24) ?hr ?_; (case hd => rfl); (case hg => rfl); (case hr => first | (go_simp; done) | (go_simp; rfl)); intro gb303 hg w6 hbox hb; have n0_ := Aside0.mk (blk_below (by (with_reducible repeat (first | refine Bf ?_ _ | refine Bh ?_ | refine Bg ?_ _)); exact BK302.out) hb); have n1_ := Aside0.mk (below_step (by repeat (with_reducible first | exact HB.out | apply Be | apply Bc | apply Bd | refine below_set ?_ GE302.out)) hb); have n2_ := Aside0.mk (hbox); have n3_ := Aside0.mk ((by rw [hg]; exact (below_size (by repeat (with_reducible first | exact HB.out | apply Be | apply Bc | apply Bd | refine below_set ?_ GE302.out))) : w.heap.size ≤ gb303)); have n4_ := n3_; have n5_ := Aside0.mk ((by rw [hg]; exact Nat.ne_of_lt (blk_lt (by (with_reducible repeat (first | refine Bf ?_ _ | refine Bh ?_ | refine Bg ?_ _)); exact BK302.out)) : gb302 ≠ gb303)); have n6_ := Aside0.mk ((by rw [hg]; exact Nat.ne_of_gt (blk_lt (by (with_reducible repeat (first | refine Bf ?_ _ | refine Bh ?_ | refine Bg ?_ _)); exact BK302.out)) : gb303 ≠ gb302)); clear BK302; clear HB; have BK302 := n0_; have HB := n1_; have BK303 := n2_; have GW303 := n3_; have GE303 := n4_; have NB302_303 := n5_; have NB303_302 := n6_; clear n0_ n1_ n2_ n3_ n4_ n5_ n6_; clear hb hbox hg) | ((with_reducible refine gate_callee (f := 43) rfl ?_); refine goesL_ (some 14) rfl rfl Tryd.func43 (by kernel_rfl) rfl #[.string a0, .int .u8 58] rfl (by (try simp only [List.map_toArray, List.map_cons, List.map_nil]) <;> rfl) ?_; (with_reducible refine (spec_l2Parts.calls k a0 58 t304 _ A3.out).mono ?_); rintro e w7 ⟨v305, rfl, ho0, hb⟩; refine ⟨_, rfl, ?_⟩; have n0_ := Aside0.mk (Kd.R_lower ho0 (below_size (by repeat (with_reducible first | exact HB.out | apply Be | apply Bc | apply Bd | refine below_set ?_ GE302.out | refine below_set ?_ GE303.out)))); have n1_ := Aside0.mk (blk_below (by (with_reducible repeat (first | refine Bf ?_ _ | refine Bh ?_ | refine Bg ?_ _)); exact BK302.out) hb); have n2_ := Aside0.mk (blk_below (by (with_reducible repeat (first | refine Bf ?_ _ | refine Bh ?_ | refine Bg ?_ _)); exact BK303.out) hb); have n3_ := Aside0.mk (below_step (by repeat (with_reducible first | exact HB.out | apply Be | apply Bc | apply Bd | refine below_set ?_ GE302.out | refine below_set ?_ GE303.out)) hb); clear BK302; clear BK303; clear HB; have HO306 := n0_; have BK302 := n1_; have BK303 := n2_; have HB := n3_; clear n0_ n1_ n2_ n3_; (try clear hb); (try clear hb2); (try clear hk); (try clear hi); (try clear ho0)))
 (try simp only [Act.put, List.setIfInBounds_toArray, List.set_cons_zero, List.set_cons_succ])
 go_cut [22] (fun v22 wc => ∃ (kq : Nat) (x22_3 : Bool), v22 = .bool x22_3 ∧ Aside0 (spec_l4Time.j0 kq t304 x22_3 a1_0 a1_1 a1_2 a1_3 a1_4 a1_5 a1_6 = some (r1, r2, r3, r4, r5, r6, r7, r8)) ∧ Aside0 (kq ≤ k) ∧ Aside0 (Kd.R Kd.string 9 wc w.heap.size (fun _ => True) v305 t304) ∧ Aside0 (wc.heap[gb302]? = some (.cells #[.int .i64 a1_0, .int .i64 a1_1, .int .i64 a1_2, .int .i64 a1_3, .int .i64 a1_4, .int .i64 a1_5, .int .i64 a1_6] 24 (0, 0))) ∧ Aside0 (wc.heap[gb303]? = some (.cells #[.int .i64 0, .int .i64 0, .int .i64 0, .int .i64 0, .int .i64 0, .int .i64 0, .int .i64 0] 24 (0, 0))) ∧ Aside0 (Below w.heap.size w wc))
 case first =>
  have H := HC4.out
  clear HC4
  by_cases c8 : (t304.length : Int) < 2
  ·rw [if_pos c8] at H
   have c8b0 : decide ((t304.length : Int) < 2) = true := decide_eq_true c8
   have c8b1 : decide (t304.length < 2) = true := decide_eq_true (by omega)
   clear c8
   (first | rw [c8b0] | (simp only [i64_w, i32_w]; rw [c8b0]) | skip)
   have H' := Aside0.mk H
   clear H
   obtain ⟨Ao9, co9, eo9⟩ := Kd.R_slice HO306.out
   subst eo9
   go_wp2
   go_meet
   case rel => exact ⟨_, (true), (by first | rfl | (simp; done) | (simp [*]; done)), H', ⟨by first | omega | exact Nat.le_refl _⟩, ⟨by (with_reducible repeat (first | apply Kd.R_alloc | apply Kd.R_drewN | apply Kd.R_drew)); exact HO306.out⟩, ⟨by (with_reducible repeat (first | refine Bf ?_ _ | refine Bh ?_ | refine Bg ?_ _)); exact BK302.out⟩, ⟨by (with_reducible repeat (first | refine Bf ?_ _ | refine Bh ?_ | refine Bg ?_ _)); exact BK303.out⟩, ⟨by repeat (with_reducible first | exact HB.out | apply Be | apply Bc | apply Bd | refine below_set ?_ GE302.out | refine below_set ?_ GE303.out)⟩⟩
  rw [if_neg c8] at H
  have c8b0 : decide ((t304.length : Int) < 2) = false := decide_eq_false c8
  have c8b1 : decide (t304.length < 2) = false := decide_eq_false (by omega)
  clear c8
  (first | rw [c8b0] | (simp only [i64_w, i32_w]; rw [c8b0]) | skip)
  have H' := Aside0.mk H
  clear H
  obtain ⟨Ao10, co10, eo10⟩ := Kd.R_slice HO306.out
  subst eo10
  go_wp2
  go_meet
  case rel => exact ⟨_, (decide ((t304.length : Int) > 3)), (by first | rfl | (simp; done) | (simp [*]; done)), H', ⟨by first | omega | exact Nat.le_refl _⟩, ⟨by (with_reducible repeat (first | apply Kd.R_alloc | apply Kd.R_drewN | apply Kd.R_drew)); exact HO306.out⟩, ⟨by (with_reducible repeat (first | refine Bf ?_ _ | refine Bh ?_ | refine Bg ?_ _)); exact BK302.out⟩, ⟨by (with_reducible repeat (first | refine Bf ?_ _ | refine Bh ?_ | refine Bg ?_ _)); exact BK303.out⟩, ⟨by repeat (with_reducible first | exact HB.out | apply Be | apply Bc | apply Bd | refine below_set ?_ GE302.out | refine below_set ?_ GE303.out)⟩⟩
 case rest =>
  clear HC4
  try clear p2
  try clear c4
  try clear c8
  try clear c8b0
  try clear c8b1
  obtain ⟨kq, x22_3, rfl, HA, HJ3, HO_6, BK302, BK303, HB⟩ := hcut
  cases kq with
  | zero => exact absurd HA.out (by simp [spec_l4Time.j0])
  | succ kj3 =>
   have H := HA.out; clear HA
   simp only [spec_l4Time.j0] at H
   by_cases c11 : x22_3 = true
   ·subst c11
    rw [if_pos rfl] at H
    simp only [Option.some.injEq, Prod.mk.injEq] at H
    obtain ⟨rfl, rfl, rfl, rfl, rfl, rfl, rfl, rfl⟩ := H
    have hnb12 := NB302_303.out; have hnc12 := NB303_302.out
    obtain ⟨hcz13_0, hcz13_1, hcz13_2, hcz13_3, hcz13_4, hcz13_5, hcz13_6⟩ := c7_ BK302.out
    obtain ⟨hfz13_0, hfz13_1, hfz13_2, hfz13_3, hfz13_4, hfz13_5, hfz13_6⟩ := f7_ BK302.out
    obtain ⟨hcz14_0, hcz14_1, hcz14_2, hcz14_3, hcz14_4, hcz14_5, hcz14_6⟩ := c7_ BK303.out
    obtain ⟨hfz14_0, hfz14_1, hfz14_2, hfz14_3, hfz14_4, hfz14_5, hfz14_6⟩ := f7_ BK303.out
    go_wp2
    refine bodyPost_ret (results_ct rfl _ _ gb303 24 #[.int .i64 a1_0, .int .i64 a1_1, .int .i64 a1_2, .int .i64 a1_3, .int .i64 a1_4, .int .i64 a1_5, .int .i64 a1_6] (0, 0) _ rfl (by (with_reducible repeat (first | refine Bf ?_ _ | refine Bh ?_ | refine Bg ?_ _)); refine p7_ (show _ = some (Obj.cells #[.int .i64 0, .int .i64 0, .int .i64 0, .int .i64 0, .int .i64 0, .int .i64 0, .int .i64 0] _ (0, 0)) from ?_); (with_reducible repeat (first | refine Bf ?_ _ | refine Bh ?_ | refine Bg ?_ _)); exact BK303.out) Tryd.underlying24 rfl (by kernel_rfl)) rfl ?_
    exact ⟨by first | rfl | (simp [errW_none, errW_some] <;> rfl) | (simp [*, errW_none, errW_some] <;> rfl), by repeat (with_reducible first | exact HB.out | apply Be | apply Bc | apply Bd | refine below_set ?_ GE302.out | refine below_set ?_ GE303.out)⟩
   replace c11 := Bool.eq_false_iff.mpr c11
   subst c11
   rw [if_neg (show ¬ (false = true) by decide)] at H
   by_cases c15 : 0 < (t304.length : Int)
   rw [if_pos c15] at H
   have c15b0 : decide (0 < (t304.length : Int)) = true := decide_eq_true c15
   have c15b1 : decide (0 < t304.length) = true := decide_eq_true (by omega)
   clear c15; replace H := Option.bind_eq_some_iff.mp H
   obtain ⟨⟨t308, t309⟩, A160, H⟩ := H
   (try dsimp only at H)
   have A16 := Aside0.mk A160; clear A160
   by_cases c17 : 1 < (t304.length : Int)
   rw [if_pos c17] at H
   have c17b0 : decide (1 < (t304.length : Int)) = true := decide_eq_true c17
   have c17b1 : decide (1 < t304.length) = true := decide_eq_true (by omega)
   clear c17; replace H := Option.bind_eq_some_iff.mp H
   obtain ⟨⟨t311, t312⟩, A180, H⟩ := H
   (try dsimp only at H)
   have A18 := Aside0.mk A180; clear A180
   by_cases c19 : (t304.length : Int) = 3
   rw [if_pos c19] at H
   have c19b0 : ((t304.length : Int) == 3) = true := beq_iff_eq.mpr c19
   have c19b1 : ((t304.length : Int) != 3) = false := bne_eq_false_iff_eq.mpr c19
   clear c19
   by_cases c20 : 2 < (t304.length : Int)
   rw [if_pos c20] at H
   have c20b0 : decide (2 < (t304.length : Int)) = true := decide_eq_true c20
   have c20b1 : decide (2 < t304.length) = true := decide_eq_true (by omega)
   clear c20; replace H := Option.bind_eq_some_iff.mp H
   obtain ⟨⟨t314, t315⟩, A210, H⟩ := H
   (try dsimp only at H)
   have A21 := Aside0.mk A210; clear A210
   by_cases c22 : t309 = true
   subst c22
   rw [if_pos rfl] at H
   by_cases c23 : t312 = true
   subst c23
   rw [if_pos rfl] at H
   simp only [Option.some.injEq, Prod.mk.injEq] at H
   obtain ⟨rfl, rfl, rfl, rfl, rfl, rfl, rfl, rfl⟩ := H
   obtain ⟨AoL0, coL0, eoL0⟩ := Kd.R_slice HO_6.out
   subst eoL0
   have pL0 : 0 ≤ (0 : Int) := (by omega)
   have qL0 : 0 < (t304.length : Int) := of_decide_eq_true (by first | (with_reducible assumption) | assumption)
   (try (obtain ⟨Ay_, cy_, ey_⟩ := Kd.R_slice HO_6.out; subst ey_))
   obtain ⟨adL0, eL0, hxL0⟩ := Kd.at_string (Kd.R_reads' HO_6.out).2.2 0 pL0 qL0
   cases eL0
   have qiL0 : (0 < t304.length) = True := eq_true (by omega)
   (try rw [show ((0 : Int)).toNat = 0 from rfl] at hxL0)
   (try rw [Addr.add_zero'] at hxL0)
   replace pL0 := eq_true pL0; replace qL0 := eq_true qL0
   have lf0 := trivial; rotate_left
   replace c23 := Bool.eq_false_iff.mpr c23
   subst c23
   rw [if_neg (show ¬ (false = true) by decide)] at H
   simp only [Option.some.injEq, Prod.mk.injEq] at H
   obtain ⟨rfl, rfl, rfl, rfl, rfl, rfl, rfl, rfl⟩ := H
   obtain ⟨AoL0, coL0, eoL0⟩ := Kd.R_slice HO_6.out
   subst eoL0
   have pL0 : 0 ≤ (0 : Int) := (by omega)
   have qL0 : 0 < (t304.length : Int) := of_decide_eq_true (by first | (with_reducible assumption) | assumption)
   (try (obtain ⟨Ay_, cy_, ey_⟩ := Kd.R_slice HO_6.out; subst ey_))
   obtain ⟨adL0, eL0, hxL0⟩ := Kd.at_string (Kd.R_reads' HO_6.out).2.2 0 pL0 qL0
   cases eL0
   have qiL0 : (0 < t304.length) = True := eq_true (by omega)
   (try rw [show ((0 : Int)).toNat = 0 from rfl] at hxL0)
   (try rw [Addr.add_zero'] at hxL0)
   replace pL0 := eq_true pL0; replace qL0 := eq_true qL0
   have lf1 := trivial; rotate_left
   replace c22 := Bool.eq_false_iff.mpr c22
   subst c22
   rw [if_neg (show ¬ (false = true) by decide)] at H
   simp only [Option.some.injEq, Prod.mk.injEq] at H
   obtain ⟨rfl, rfl, rfl, rfl, rfl, rfl, rfl, rfl⟩ := H
   obtain ⟨AoL0, coL0, eoL0⟩ := Kd.R_slice HO_6.out
   subst eoL0
   have pL0 : 0 ≤ (0 : Int) := (by omega)
   have qL0 : 0 < (t304.length : Int) := of_decide_eq_true (by first | (with_reducible assumption) | assumption)
   (try (obtain ⟨Ay_, cy_, ey_⟩ := Kd.R_slice HO_6.out; subst ey_))
   obtain ⟨adL0, eL0, hxL0⟩ := Kd.at_string (Kd.R_reads' HO_6.out).2.2 0 pL0 qL0
   cases eL0
   have qiL0 : (0 < t304.length) = True := eq_true (by omega)
   (try rw [show ((0 : Int)).toNat = 0 from rfl] at hxL0)
   (try rw [Addr.add_zero'] at hxL0)
   replace pL0 := eq_true pL0; replace qL0 := eq_true qL0
   have lf2 := trivial; rotate_left
   rw [if_neg c20] at H
   exact absurd H (by simp)
   rw [if_neg c19] at H
   have c19b0 : ((t304.length : Int) == 3) = false := beq_eq_false_iff_ne.mpr c19
   have c19b1 : ((t304.length : Int) != 3) = true := bne_iff_ne.mpr c19
   by_cases c36 : t309 = true
   subst c36
   rw [if_pos rfl] at H
   by_cases c37 : t312 = true
   subst c37
   rw [if_pos rfl] at H
   simp only [Option.some.injEq, Prod.mk.injEq] at H
   obtain ⟨rfl, rfl, rfl, rfl, rfl, rfl, rfl, rfl⟩ := H
   obtain ⟨AoL0, coL0, eoL0⟩ := Kd.R_slice HO_6.out
   subst eoL0
   have pL0 : 0 ≤ (0 : Int) := (by omega)
   have qL0 : 0 < (t304.length : Int) := of_decide_eq_true (by first | (with_reducible assumption) | assumption)
   (try (obtain ⟨Ay_, cy_, ey_⟩ := Kd.R_slice HO_6.out; subst ey_))
   obtain ⟨adL0, eL0, hxL0⟩ := Kd.at_string (Kd.R_reads' HO_6.out).2.2 0 pL0 qL0
   cases eL0
   have qiL0 : (0 < t304.length) = True := eq_true (by omega)
   (try rw [show ((0 : Int)).toNat = 0 from rfl] at hxL0)
   (try rw [Addr.add_zero'] at hxL0)
   replace pL0 := eq_true pL0; replace qL0 := eq_true qL0
   have lf3 := trivial; rotate_left
   replace c37 := Bool.eq_false_iff.mpr c37
   subst c37
   rw [if_neg (show ¬ (false = true) by decide)] at H
   simp only [Option.some.injEq, Prod.mk.injEq] at H
   obtain ⟨rfl, rfl, rfl, rfl, rfl, rfl, rfl, rfl⟩ := H
   obtain ⟨AoL0, coL0, eoL0⟩ := Kd.R_slice HO_6.out
   subst eoL0
   have pL0 : 0 ≤ (0 : Int) := (by omega)
   have qL0 : 0 < (t304.length : Int) := of_decide_eq_true (by first | (with_reducible assumption) | assumption)
   (try (obtain ⟨Ay_, cy_, ey_⟩ := Kd.R_slice HO_6.out; subst ey_))
   obtain ⟨adL0, eL0, hxL0⟩ := Kd.at_string (Kd.R_reads' HO_6.out).2.2 0 pL0 qL0
   cases eL0
   have qiL0 : (0 < t304.length) = True := eq_true (by omega)
   (try rw [show ((0 : Int)).toNat = 0 from rfl] at hxL0)
   (try rw [Addr.add_zero'] at hxL0)
   replace pL0 := eq_true pL0; replace qL0 := eq_true qL0
   have lf4 := trivial; rotate_left
   replace c36 := Bool.eq_false_iff.mpr c36
   subst c36
   rw [if_neg (show ¬ (false = true) by decide)] at H
   simp only [Option.some.injEq, Prod.mk.injEq] at H
   obtain ⟨rfl, rfl, rfl, rfl, rfl, rfl, rfl, rfl⟩ := H
   obtain ⟨AoL0, coL0, eoL0⟩ := Kd.R_slice HO_6.out
   subst eoL0
   have pL0 : 0 ≤ (0 : Int) := (by omega)
   have qL0 : 0 < (t304.length : Int) := of_decide_eq_true (by first | (with_reducible assumption) | assumption)
   (try (obtain ⟨Ay_, cy_, ey_⟩ := Kd.R_slice HO_6.out; subst ey_))
   obtain ⟨adL0, eL0, hxL0⟩ := Kd.at_string (Kd.R_reads' HO_6.out).2.2 0 pL0 qL0
   cases eL0
   have qiL0 : (0 < t304.length) = True := eq_true (by omega)
   (try rw [show ((0 : Int)).toNat = 0 from rfl] at hxL0)
   (try rw [Addr.add_zero'] at hxL0)
   replace pL0 := eq_true pL0; replace qL0 := eq_true qL0
   have lf5 := trivial; rotate_left
   rw [if_neg c17] at H
   exact absurd H (by simp)
   rw [if_neg c15] at H
   exact absurd H (by simp)
   all_goals
    go_wp2_with (first | (have _ := lf1; ((with_reducible refine gate_callee (f := 44) rfl ?_); refine goesL_ (some 35) rfl rfl Tryd.func44 (by kernel_rfl) rfl #[.string (rdOf ByteArray.empty t304 1), .int .i64 2, .int .i64 2] rfl (by (try simp only [List.map_toArray, List.map_cons, List.map_nil]) <;> rfl) ?_; (with_reducible refine (spec_l4Digits.calls kj3 (rdOf ByteArray.empty t304 1) 2 2 t311 false _ A18.out).mono ?_); rintro e w' ⟨rfl, ⟨nd, rfl⟩⟩; refine ⟨_, rfl, ?_⟩; (try (rw [drewN_self wc]; generalize hq_ : World.drewN wc _ = wc; have n0_ : Aside0 (Kd.R Kd.string 9 wc w.heap.size (fun _ => True) (.slice (some adL0) t304.length coL0) t304) := ⟨by rw [← hq_]; exact (by (with_reducible repeat (first | apply Kd.R_alloc | apply Kd.R_drewN | apply Kd.R_drew)); exact HO_6.out)⟩; have n1_ : Aside0 (wc.heap[gb302]? = some (.cells #[.int .i64 a1_0, .int .i64 a1_1, .int .i64 a1_2, .int .i64 a1_3, .int .i64 a1_4, .int .i64 a1_5, .int .i64 a1_6] 24 (0, 0))) := ⟨by rw [← hq_]; exact (by (with_reducible repeat (first | refine Bf ?_ _ | refine Bh ?_ | refine Bg ?_ _)); exact BK302.out)⟩; have n2_ : Aside0 (wc.heap[gb303]? = some (.cells #[.int .i64 0, .int .i64 0, .int .i64 0, .int .i64 0, .int .i64 0, .int .i64 0, .int .i64 0] 24 (0, 0))) := ⟨by rw [← hq_]; exact (by (with_reducible repeat (first | refine Bf ?_ _ | refine Bh ?_ | refine Bg ?_ _)); exact BK303.out)⟩; have n3_ : Aside0 (Below w.heap.size w wc) := ⟨by rw [← hq_]; exact (by repeat (with_reducible first | exact HB.out | apply Be | apply Bc | apply Bd | refine below_set ?_ GE302.out | refine below_set ?_ GE303.out))⟩; clear HO_6 BK302 BK303 HB hq_; have HO_6 := n0_; have BK302 := n1_; have BK303 := n2_; have HB := n3_; clear n0_ n1_ n2_ n3_)); have pL2 : 0 ≤ (2 : Int) := (by omega); have qL2 : 2 < (t304.length : Int) := of_decide_eq_true (by first | (with_reducible assumption) | assumption); obtain ⟨adL2, eL2, hxL2⟩ := Kd.at_string (Kd.R_reads' HO_6.out).2.2 2 pL2 qL2; obtain rfl : adL0 = adL2 := (by injection eL2); (try simp only [show (2 : Int).toNat = 2 from rfl, Nat.reduceMul, Nat.reduceEqDiff, Go.Addr.add, ↓reduceIte] at hxL2); have qiL2 : (2 < t304.length) = True := eq_true (by omega); (try rw [show ((2 : Int)).toNat = 2 from rfl] at hxL2); replace pL2 := eq_true pL2; replace qL2 := eq_true qL2)) | ((first | have _ := lf2 | have _ := lf5); ((with_reducible refine gate_callee (f := 44) rfl ?_); refine goesL_ (some 28) rfl rfl Tryd.func44 (by kernel_rfl) rfl #[.string (rdOf ByteArray.empty t304 0), .int .i64 2, .int .i64 2] rfl (by (try simp only [List.map_toArray, List.map_cons, List.map_nil]) <;> rfl) ?_; (with_reducible refine (spec_l4Digits.calls kj3 (rdOf ByteArray.empty t304 0) 2 2 t308 false _ A16.out).mono ?_); rintro e w' ⟨rfl, ⟨nd, rfl⟩⟩; refine ⟨_, rfl, ?_⟩; (try (rw [drewN_self wc]; generalize hq_ : World.drewN wc _ = wc; have n0_ : Aside0 (Kd.R Kd.string 9 wc w.heap.size (fun _ => True) (.slice (some adL0) t304.length coL0) t304) := ⟨by rw [← hq_]; exact (by (with_reducible repeat (first | apply Kd.R_alloc | apply Kd.R_drewN | apply Kd.R_drew)); exact HO_6.out)⟩; have n1_ : Aside0 (wc.heap[gb302]? = some (.cells #[.int .i64 a1_0, .int .i64 a1_1, .int .i64 a1_2, .int .i64 a1_3, .int .i64 a1_4, .int .i64 a1_5, .int .i64 a1_6] 24 (0, 0))) := ⟨by rw [← hq_]; exact (by (with_reducible repeat (first | refine Bf ?_ _ | refine Bh ?_ | refine Bg ?_ _)); exact BK302.out)⟩; have n2_ : Aside0 (wc.heap[gb303]? = some (.cells #[.int .i64 0, .int .i64 0, .int .i64 0, .int .i64 0, .int .i64 0, .int .i64 0, .int .i64 0] 24 (0, 0))) := ⟨by rw [← hq_]; exact (by (with_reducible repeat (first | refine Bf ?_ _ | refine Bh ?_ | refine Bg ?_ _)); exact BK303.out)⟩; have n3_ : Aside0 (Below w.heap.size w wc) := ⟨by rw [← hq_]; exact (by repeat (with_reducible first | exact HB.out | apply Be | apply Bc | apply Bd | refine below_set ?_ GE302.out | refine below_set ?_ GE303.out))⟩; clear HO_6 BK302 BK303 HB hq_; have HO_6 := n0_; have BK302 := n1_; have BK303 := n2_; have HB := n3_; clear n0_ n1_ n2_ n3_)); have pL1 : 0 ≤ (1 : Int) := (by omega); have qL1 : 1 < (t304.length : Int) := of_decide_eq_true (by first | (with_reducible assumption) | assumption); obtain ⟨adL1, eL1, hxL1⟩ := Kd.at_string (Kd.R_reads' HO_6.out).2.2 1 pL1 qL1; obtain rfl : adL0 = adL1 := (by injection eL1); (try simp only [show (1 : Int).toNat = 1 from rfl, Nat.reduceMul, Nat.reduceEqDiff, Go.Addr.add, ↓reduceIte] at hxL1); have qiL1 : (1 < t304.length) = True := eq_true (by omega); (try rw [show ((1 : Int)).toNat = 1 from rfl] at hxL1); replace pL1 := eq_true pL1; replace qL1 := eq_true qL1)) | (have _ := lf2; ((with_reducible refine gate_callee (f := 44) rfl ?_); refine goesL_ (some 35) rfl rfl Tryd.func44 (by kernel_rfl) rfl #[.string (rdOf ByteArray.empty t304 1), .int .i64 2, .int .i64 2] rfl (by (try simp only [List.map_toArray, List.map_cons, List.map_nil]) <;> rfl) ?_; (with_reducible refine (spec_l4Digits.calls kj3 (rdOf ByteArray.empty t304 1) 2 2 t311 t312 _ A18.out).mono ?_); rintro e w' ⟨rfl, ⟨nd, rfl⟩⟩; refine ⟨_, rfl, ?_⟩; (try (rw [drewN_self wc]; generalize hq_ : World.drewN wc _ = wc; have n0_ : Aside0 (Kd.R Kd.string 9 wc w.heap.size (fun _ => True) (.slice (some adL0) t304.length coL0) t304) := ⟨by rw [← hq_]; exact (by (with_reducible repeat (first | apply Kd.R_alloc | apply Kd.R_drewN | apply Kd.R_drew)); exact HO_6.out)⟩; have n1_ : Aside0 (wc.heap[gb302]? = some (.cells #[.int .i64 a1_0, .int .i64 a1_1, .int .i64 a1_2, .int .i64 a1_3, .int .i64 a1_4, .int .i64 a1_5, .int .i64 a1_6] 24 (0, 0))) := ⟨by rw [← hq_]; exact (by (with_reducible repeat (first | refine Bf ?_ _ | refine Bh ?_ | refine Bg ?_ _)); exact BK302.out)⟩; have n2_ : Aside0 (wc.heap[gb303]? = some (.cells #[.int .i64 0, .int .i64 0, .int .i64 0, .int .i64 0, .int .i64 0, .int .i64 0, .int .i64 0] 24 (0, 0))) := ⟨by rw [← hq_]; exact (by (with_reducible repeat (first | refine Bf ?_ _ | refine Bh ?_ | refine Bg ?_ _)); exact BK303.out)⟩; have n3_ : Aside0 (Below w.heap.size w wc) := ⟨by rw [← hq_]; exact (by repeat (with_reducible first | exact HB.out | apply Be | apply Bc | apply Bd | refine below_set ?_ GE302.out | refine below_set ?_ GE303.out))⟩; clear HO_6 BK302 BK303 HB hq_; have HO_6 := n0_; have BK302 := n1_; have BK303 := n2_; have HB := n3_; clear n0_ n1_ n2_ n3_)); have pL2 : 0 ≤ (2 : Int) := (by omega); have qL2 : 2 < (t304.length : Int) := of_decide_eq_true (by first | (with_reducible assumption) | assumption); obtain ⟨adL2, eL2, hxL2⟩ := Kd.at_string (Kd.R_reads' HO_6.out).2.2 2 pL2 qL2; obtain rfl : adL0 = adL2 := (by injection eL2); (try simp only [show (2 : Int).toNat = 2 from rfl, Nat.reduceMul, Nat.reduceEqDiff, Go.Addr.add, ↓reduceIte] at hxL2); have qiL2 : (2 < t304.length) = True := eq_true (by omega); (try rw [show ((2 : Int)).toNat = 2 from rfl] at hxL2); replace pL2 := eq_true pL2; replace qL2 := eq_true qL2)) | (have _ := lf3; ((with_reducible refine gate_callee (f := 44) rfl ?_); refine goesL_ (some 35) rfl rfl Tryd.func44 (by kernel_rfl) rfl #[.string (rdOf ByteArray.empty t304 1), .int .i64 2, .int .i64 2] rfl (by (try simp only [List.map_toArray, List.map_cons, List.map_nil]) <;> rfl) ?_; (with_reducible refine (spec_l4Digits.calls kj3 (rdOf ByteArray.empty t304 1) 2 2 t311 true _ A18.out).mono ?_); rintro e w' ⟨rfl, ⟨nd, rfl⟩⟩; refine ⟨_, rfl, ?_⟩; (try (rw [drewN_self wc]; generalize hq_ : World.drewN wc _ = wc; have n0_ : Aside0 (Kd.R Kd.string 9 wc w.heap.size (fun _ => True) (.slice (some adL0) t304.length coL0) t304) := ⟨by rw [← hq_]; exact (by (with_reducible repeat (first | apply Kd.R_alloc | apply Kd.R_drewN | apply Kd.R_drew)); exact HO_6.out)⟩; have n1_ : Aside0 (wc.heap[gb302]? = some (.cells #[.int .i64 a1_0, .int .i64 a1_1, .int .i64 a1_2, .int .i64 a1_3, .int .i64 a1_4, .int .i64 a1_5, .int .i64 a1_6] 24 (0, 0))) := ⟨by rw [← hq_]; exact (by (with_reducible repeat (first | refine Bf ?_ _ | refine Bh ?_ | refine Bg ?_ _)); exact BK302.out)⟩; have n2_ : Aside0 (wc.heap[gb303]? = some (.cells #[.int .i64 0, .int .i64 0, .int .i64 0, .int .i64 0, .int .i64 0, .int .i64 0, .int .i64 0] 24 (0, 0))) := ⟨by rw [← hq_]; exact (by (with_reducible repeat (first | refine Bf ?_ _ | refine Bh ?_ | refine Bg ?_ _)); exact BK303.out)⟩; have n3_ : Aside0 (Below w.heap.size w wc) := ⟨by rw [← hq_]; exact (by repeat (with_reducible first | exact HB.out | apply Be | apply Bc | apply Bd | refine below_set ?_ GE302.out | refine below_set ?_ GE303.out))⟩; clear HO_6 BK302 BK303 HB hq_; have HO_6 := n0_; have BK302 := n1_; have BK303 := n2_; have HB := n3_; clear n0_ n1_ n2_ n3_)); have hnbL0 := NB302_303.out; have hncL0 := NB303_302.out; obtain ⟨hczL0, hczL1, hczL2, hczL3, hczL4, hczL5, hczL6⟩ := c7_ BK302.out; obtain ⟨hfzL0, hfzL1, hfzL2, hfzL3, hfzL4, hfzL5, hfzL6⟩ := f7_ BK302.out; obtain ⟨hczL7, hczL8, hczL9, hczL10, hczL11, hczL12, hczL13⟩ := c7_ BK303.out; obtain ⟨hfzL7, hfzL8, hfzL9, hfzL10, hfzL11, hfzL12, hfzL13⟩ := f7_ BK303.out)) | (have _ := lf4; ((with_reducible refine gate_callee (f := 44) rfl ?_); refine goesL_ (some 35) rfl rfl Tryd.func44 (by kernel_rfl) rfl #[.string (rdOf ByteArray.empty t304 1), .int .i64 2, .int .i64 2] rfl (by (try simp only [List.map_toArray, List.map_cons, List.map_nil]) <;> rfl) ?_; (with_reducible refine (spec_l4Digits.calls kj3 (rdOf ByteArray.empty t304 1) 2 2 t311 false _ A18.out).mono ?_); rintro e w' ⟨rfl, ⟨nd, rfl⟩⟩; refine ⟨_, rfl, ?_⟩; (try (rw [drewN_self wc]; generalize hq_ : World.drewN wc _ = wc; have n0_ : Aside0 (Kd.R Kd.string 9 wc w.heap.size (fun _ => True) (.slice (some adL0) t304.length coL0) t304) := ⟨by rw [← hq_]; exact (by (with_reducible repeat (first | apply Kd.R_alloc | apply Kd.R_drewN | apply Kd.R_drew)); exact HO_6.out)⟩; have n1_ : Aside0 (wc.heap[gb302]? = some (.cells #[.int .i64 a1_0, .int .i64 a1_1, .int .i64 a1_2, .int .i64 a1_3, .int .i64 a1_4, .int .i64 a1_5, .int .i64 a1_6] 24 (0, 0))) := ⟨by rw [← hq_]; exact (by (with_reducible repeat (first | refine Bf ?_ _ | refine Bh ?_ | refine Bg ?_ _)); exact BK302.out)⟩; have n2_ : Aside0 (wc.heap[gb303]? = some (.cells #[.int .i64 0, .int .i64 0, .int .i64 0, .int .i64 0, .int .i64 0, .int .i64 0, .int .i64 0] 24 (0, 0))) := ⟨by rw [← hq_]; exact (by (with_reducible repeat (first | refine Bf ?_ _ | refine Bh ?_ | refine Bg ?_ _)); exact BK303.out)⟩; have n3_ : Aside0 (Below w.heap.size w wc) := ⟨by rw [← hq_]; exact (by repeat (with_reducible first | exact HB.out | apply Be | apply Bc | apply Bd | refine below_set ?_ GE302.out | refine below_set ?_ GE303.out))⟩; clear HO_6 BK302 BK303 HB hq_; have HO_6 := n0_; have BK302 := n1_; have BK303 := n2_; have HB := n3_; clear n0_ n1_ n2_ n3_)); have hnbL0 := NB302_303.out; have hncL0 := NB303_302.out; obtain ⟨hczL0, hczL1, hczL2, hczL3, hczL4, hczL5, hczL6⟩ := c7_ BK302.out; obtain ⟨hfzL0, hfzL1, hfzL2, hfzL3, hfzL4, hfzL5, hfzL6⟩ := f7_ BK302.out; obtain ⟨hczL7, hczL8, hczL9, hczL10, hczL11, hczL12, hczL13⟩ := c7_ BK303.out; obtain ⟨hfzL7, hfzL8, hfzL9, hfzL10, hfzL11, hfzL12, hfzL13⟩ := f7_ BK303.out)) | (have _ := lf5; ((with_reducible refine gate_callee (f := 44) rfl ?_); refine goesL_ (some 35) rfl rfl Tryd.func44 (by kernel_rfl) rfl #[.string (rdOf ByteArray.empty t304 1), .int .i64 2, .int .i64 2] rfl (by (try simp only [List.map_toArray, List.map_cons, List.map_nil]) <;> rfl) ?_; (with_reducible refine (spec_l4Digits.calls kj3 (rdOf ByteArray.empty t304 1) 2 2 t311 t312 _ A18.out).mono ?_); rintro e w' ⟨rfl, ⟨nd, rfl⟩⟩; refine ⟨_, rfl, ?_⟩; (try (rw [drewN_self wc]; generalize hq_ : World.drewN wc _ = wc; have n0_ : Aside0 (Kd.R Kd.string 9 wc w.heap.size (fun _ => True) (.slice (some adL0) t304.length coL0) t304) := ⟨by rw [← hq_]; exact (by (with_reducible repeat (first | apply Kd.R_alloc | apply Kd.R_drewN | apply Kd.R_drew)); exact HO_6.out)⟩; have n1_ : Aside0 (wc.heap[gb302]? = some (.cells #[.int .i64 a1_0, .int .i64 a1_1, .int .i64 a1_2, .int .i64 a1_3, .int .i64 a1_4, .int .i64 a1_5, .int .i64 a1_6] 24 (0, 0))) := ⟨by rw [← hq_]; exact (by (with_reducible repeat (first | refine Bf ?_ _ | refine Bh ?_ | refine Bg ?_ _)); exact BK302.out)⟩; have n2_ : Aside0 (wc.heap[gb303]? = some (.cells #[.int .i64 0, .int .i64 0, .int .i64 0, .int .i64 0, .int .i64 0, .int .i64 0, .int .i64 0] 24 (0, 0))) := ⟨by rw [← hq_]; exact (by (with_reducible repeat (first | refine Bf ?_ _ | refine Bh ?_ | refine Bg ?_ _)); exact BK303.out)⟩; have n3_ : Aside0 (Below w.heap.size w wc) := ⟨by rw [← hq_]; exact (by repeat (with_reducible first | exact HB.out | apply Be | apply Bc | apply Bd | refine below_set ?_ GE302.out | refine below_set ?_ GE303.out))⟩; clear HO_6 BK302 BK303 HB hq_; have HO_6 := n0_; have BK302 := n1_; have BK303 := n2_; have HB := n3_; clear n0_ n1_ n2_ n3_)); have hnbL0 := NB302_303.out; have hncL0 := NB303_302.out; obtain ⟨hczL0, hczL1, hczL2, hczL3, hczL4, hczL5, hczL6⟩ := c7_ BK302.out; obtain ⟨hfzL0, hfzL1, hfzL2, hfzL3, hfzL4, hfzL5, hfzL6⟩ := f7_ BK302.out; obtain ⟨hczL7, hczL8, hczL9, hczL10, hczL11, hczL12, hczL13⟩ := c7_ BK303.out; obtain ⟨hfzL7, hfzL8, hfzL9, hfzL10, hfzL11, hfzL12, hfzL13⟩ := f7_ BK303.out)) | ((with_reducible refine gate_callee (f := 44) rfl ?_); refine goesL_ (some 28) rfl rfl Tryd.func44 (by kernel_rfl) rfl #[.string (rdOf ByteArray.empty t304 0), .int .i64 2, .int .i64 2] rfl (by (try simp only [List.map_toArray, List.map_cons, List.map_nil]) <;> rfl) ?_; (with_reducible refine (spec_l4Digits.calls kj3 (rdOf ByteArray.empty t304 0) 2 2 t308 true _ A16.out).mono ?_); rintro e w' ⟨rfl, ⟨nd, rfl⟩⟩; refine ⟨_, rfl, ?_⟩; (try (rw [drewN_self wc]; generalize hq_ : World.drewN wc _ = wc; have n0_ : Aside0 (Kd.R Kd.string 9 wc w.heap.size (fun _ => True) (.slice (some adL0) t304.length coL0) t304) := ⟨by rw [← hq_]; exact (by (with_reducible repeat (first | apply Kd.R_alloc | apply Kd.R_drewN | apply Kd.R_drew)); exact HO_6.out)⟩; have n1_ : Aside0 (wc.heap[gb302]? = some (.cells #[.int .i64 a1_0, .int .i64 a1_1, .int .i64 a1_2, .int .i64 a1_3, .int .i64 a1_4, .int .i64 a1_5, .int .i64 a1_6] 24 (0, 0))) := ⟨by rw [← hq_]; exact (by (with_reducible repeat (first | refine Bf ?_ _ | refine Bh ?_ | refine Bg ?_ _)); exact BK302.out)⟩; have n2_ : Aside0 (wc.heap[gb303]? = some (.cells #[.int .i64 0, .int .i64 0, .int .i64 0, .int .i64 0, .int .i64 0, .int .i64 0, .int .i64 0] 24 (0, 0))) := ⟨by rw [← hq_]; exact (by (with_reducible repeat (first | refine Bf ?_ _ | refine Bh ?_ | refine Bg ?_ _)); exact BK303.out)⟩; have n3_ : Aside0 (Below w.heap.size w wc) := ⟨by rw [← hq_]; exact (by repeat (with_reducible first | exact HB.out | apply Be | apply Bc | apply Bd | refine below_set ?_ GE302.out | refine below_set ?_ GE303.out))⟩; clear HO_6 BK302 BK303 HB hq_; have HO_6 := n0_; have BK302 := n1_; have BK303 := n2_; have HB := n3_; clear n0_ n1_ n2_ n3_)); have pL1 : 0 ≤ (1 : Int) := (by omega); have qL1 : 1 < (t304.length : Int) := of_decide_eq_true (by first | (with_reducible assumption) | assumption); obtain ⟨adL1, eL1, hxL1⟩ := Kd.at_string (Kd.R_reads' HO_6.out).2.2 1 pL1 qL1; obtain rfl : adL0 = adL1 := (by injection eL1); (try simp only [show (1 : Int).toNat = 1 from rfl, Nat.reduceMul, Nat.reduceEqDiff, Go.Addr.add, ↓reduceIte] at hxL1); have qiL1 : (1 < t304.length) = True := eq_true (by omega); (try rw [show ((1 : Int)).toNat = 1 from rfl] at hxL1); replace pL1 := eq_true pL1; replace qL1 := eq_true qL1) | ((with_reducible refine gate_callee (f := 44) rfl ?_); refine goesL_ (some 35) rfl rfl Tryd.func44 (by kernel_rfl) rfl #[.string (rdOf ByteArray.empty t304 1), .int .i64 2, .int .i64 2] rfl (by (try simp only [List.map_toArray, List.map_cons, List.map_nil]) <;> rfl) ?_; (with_reducible refine (spec_l4Digits.calls kj3 (rdOf ByteArray.empty t304 1) 2 2 t311 true _ A18.out).mono ?_); rintro e w' ⟨rfl, ⟨nd, rfl⟩⟩; refine ⟨_, rfl, ?_⟩; (try (rw [drewN_self wc]; generalize hq_ : World.drewN wc _ = wc; have n0_ : Aside0 (Kd.R Kd.string 9 wc w.heap.size (fun _ => True) (.slice (some adL0) t304.length coL0) t304) := ⟨by rw [← hq_]; exact (by (with_reducible repeat (first | apply Kd.R_alloc | apply Kd.R_drewN | apply Kd.R_drew)); exact HO_6.out)⟩; have n1_ : Aside0 (wc.heap[gb302]? = some (.cells #[.int .i64 a1_0, .int .i64 a1_1, .int .i64 a1_2, .int .i64 a1_3, .int .i64 a1_4, .int .i64 a1_5, .int .i64 a1_6] 24 (0, 0))) := ⟨by rw [← hq_]; exact (by (with_reducible repeat (first | refine Bf ?_ _ | refine Bh ?_ | refine Bg ?_ _)); exact BK302.out)⟩; have n2_ : Aside0 (wc.heap[gb303]? = some (.cells #[.int .i64 0, .int .i64 0, .int .i64 0, .int .i64 0, .int .i64 0, .int .i64 0, .int .i64 0] 24 (0, 0))) := ⟨by rw [← hq_]; exact (by (with_reducible repeat (first | refine Bf ?_ _ | refine Bh ?_ | refine Bg ?_ _)); exact BK303.out)⟩; have n3_ : Aside0 (Below w.heap.size w wc) := ⟨by rw [← hq_]; exact (by repeat (with_reducible first | exact HB.out | apply Be | apply Bc | apply Bd | refine below_set ?_ GE302.out | refine below_set ?_ GE303.out))⟩; clear HO_6 BK302 BK303 HB hq_; have HO_6 := n0_; have BK302 := n1_; have BK303 := n2_; have HB := n3_; clear n0_ n1_ n2_ n3_)); have pL2 : 0 ≤ (2 : Int) := (by omega); have qL2 : 2 < (t304.length : Int) := of_decide_eq_true (by first | (with_reducible assumption) | assumption); obtain ⟨adL2, eL2, hxL2⟩ := Kd.at_string (Kd.R_reads' HO_6.out).2.2 2 pL2 qL2; obtain rfl : adL0 = adL2 := (by injection eL2); (try simp only [show (2 : Int).toNat = 2 from rfl, Nat.reduceMul, Nat.reduceEqDiff, Go.Addr.add, ↓reduceIte] at hxL2); have qiL2 : (2 < t304.length) = True := eq_true (by omega); (try rw [show ((2 : Int)).toNat = 2 from rfl] at hxL2); replace pL2 := eq_true pL2; replace qL2 := eq_true qL2) | ((with_reducible refine gate_callee (f := 44) rfl ?_); refine goesL_ (some 45) rfl rfl Tryd.func44 (by kernel_rfl) rfl #[.string (rdOf ByteArray.empty t304 2), .int .i64 2, .int .i64 2] rfl (by (try simp only [List.map_toArray, List.map_cons, List.map_nil]) <;> rfl) ?_; (with_reducible refine (spec_l4Digits.calls kj3 (rdOf ByteArray.empty t304 2) 2 2 t314 t315 _ A21.out).mono ?_); rintro e w' ⟨rfl, ⟨nd, rfl⟩⟩; refine ⟨_, rfl, ?_⟩; (try (rw [drewN_self wc]; generalize hq_ : World.drewN wc _ = wc; have n0_ : Aside0 (Kd.R Kd.string 9 wc w.heap.size (fun _ => True) (.slice (some adL0) t304.length coL0) t304) := ⟨by rw [← hq_]; exact (by (with_reducible repeat (first | apply Kd.R_alloc | apply Kd.R_drewN | apply Kd.R_drew)); exact HO_6.out)⟩; have n1_ : Aside0 (wc.heap[gb302]? = some (.cells #[.int .i64 a1_0, .int .i64 a1_1, .int .i64 a1_2, .int .i64 a1_3, .int .i64 a1_4, .int .i64 a1_5, .int .i64 a1_6] 24 (0, 0))) := ⟨by rw [← hq_]; exact (by (with_reducible repeat (first | refine Bf ?_ _ | refine Bh ?_ | refine Bg ?_ _)); exact BK302.out)⟩; have n2_ : Aside0 (wc.heap[gb303]? = some (.cells #[.int .i64 0, .int .i64 0, .int .i64 0, .int .i64 0, .int .i64 0, .int .i64 0, .int .i64 0] 24 (0, 0))) := ⟨by rw [← hq_]; exact (by (with_reducible repeat (first | refine Bf ?_ _ | refine Bh ?_ | refine Bg ?_ _)); exact BK303.out)⟩; have n3_ : Aside0 (Below w.heap.size w wc) := ⟨by rw [← hq_]; exact (by repeat (with_reducible first | exact HB.out | apply Be | apply Bc | apply Bd | refine below_set ?_ GE302.out | refine below_set ?_ GE303.out))⟩; clear HO_6 BK302 BK303 HB hq_; have HO_6 := n0_; have BK302 := n1_; have BK303 := n2_; have HB := n3_; clear n0_ n1_ n2_ n3_)); have hnbL0 := NB302_303.out; have hncL0 := NB303_302.out; obtain ⟨hczL0, hczL1, hczL2, hczL3, hczL4, hczL5, hczL6⟩ := c7_ BK302.out; obtain ⟨hfzL0, hfzL1, hfzL2, hfzL3, hfzL4, hfzL5, hfzL6⟩ := f7_ BK302.out; obtain ⟨hczL7, hczL8, hczL9, hczL10, hczL11, hczL12, hczL13⟩ := c7_ BK303.out; obtain ⟨hfzL7, hfzL8, hfzL9, hfzL10, hfzL11, hfzL12, hfzL13⟩ := f7_ BK303.out))
    (first | ((first | have _ := lf0 | have _ := lf1 | have _ := lf2); refine bodyPost_ret (results_ct rfl _ _ gb303 24 #[.int .i64 a1_0, .int .i64 a1_1, .int .i64 a1_2, .int .i64 t308, .int .i64 t311, .int .i64 t314, .int .i64 a1_6] (0, 0) _ rfl (by (with_reducible repeat (first | refine Bf ?_ _ | refine Bh ?_ | refine Bg ?_ _)); refine p7_ (show _ = some (Obj.cells #[.int .i64 0, .int .i64 0, .int .i64 0, .int .i64 0, .int .i64 0, .int .i64 0, .int .i64 0] _ (0, 0)) from ?_); (with_reducible repeat (first | refine Bf ?_ _ | refine Bh ?_ | refine Bg ?_ _)); refine blk_far ?_ NB303_302.out _; (with_reducible repeat (first | refine Bf ?_ _ | refine Bh ?_ | refine Bg ?_ _)); refine blk_far ?_ NB303_302.out _; (with_reducible repeat (first | refine Bf ?_ _ | refine Bh ?_ | refine Bg ?_ _)); refine blk_far ?_ NB303_302.out _; (with_reducible repeat (first | refine Bf ?_ _ | refine Bh ?_ | refine Bg ?_ _)); exact BK303.out) Tryd.underlying24 rfl (by kernel_rfl)) rfl ?_) | (refine bodyPost_ret (results_ct rfl _ _ gb303 24 #[.int .i64 a1_0, .int .i64 a1_1, .int .i64 a1_2, .int .i64 t308, .int .i64 t311, .int .i64 0, .int .i64 a1_6] (0, 0) _ rfl (by (with_reducible repeat (first | refine Bf ?_ _ | refine Bh ?_ | refine Bg ?_ _)); refine p7_ (show _ = some (Obj.cells #[.int .i64 0, .int .i64 0, .int .i64 0, .int .i64 0, .int .i64 0, .int .i64 0, .int .i64 0] _ (0, 0)) from ?_); (with_reducible repeat (first | refine Bf ?_ _ | refine Bh ?_ | refine Bg ?_ _)); refine blk_far ?_ NB303_302.out _; (with_reducible repeat (first | refine Bf ?_ _ | refine Bh ?_ | refine Bg ?_ _)); refine blk_far ?_ NB303_302.out _; (with_reducible repeat (first | refine Bf ?_ _ | refine Bh ?_ | refine Bg ?_ _)); refine blk_far ?_ NB303_302.out _; (with_reducible repeat (first | refine Bf ?_ _ | refine Bh ?_ | refine Bg ?_ _)); exact BK303.out) Tryd.underlying24 rfl (by kernel_rfl)) rfl ?_))
    exact ⟨by first | rfl | (simp [errW_none, errW_some] <;> rfl) | (simp [*, errW_none, errW_some] <;> rfl), by repeat (with_reducible first | exact HB.out | apply Be | apply Bc | apply Bd | refine below_set ?_ GE302.out | refine below_set ?_ GE303.out)⟩
mutual
def spec_l4Offset.j0 : Nat → ByteArray → Bool → Option (Int × Bool)
 | 0, _, _ => none
 | k + 1, x0, x14 => if x14 = true then (some (0, true)) else (if (x0.size : Int) = 5 then (if 0 < (x0.size : Int) then (if (bt x0 0) = 43 then (spec_l4Offset.j1 k x0 false) else (spec_l4Offset.j1 k x0 ((bt x0 0) != 45))) else (none)) else (spec_l4Offset.j1 k x0 true))
def spec_l4Offset.j1 : Nat → ByteArray → Bool → Option (Int × Bool)
 | 0, _, _ => none
 | k + 1, x0, x27 => if x27 = true then (some (0, false)) else (if 1 ≤ 3 then (if 3 ≤ (x0.size : Int) then ((spec_l4Digits.f k (x0.extract 1 3) 2 2).bind fun bt316 => ((spec_l4Digits.f k (x0.extract 3 x0.size) 2 2).bind fun bt318 => (if 0 < (x0.size : Int) then (if (bt x0 0) = 45 then (if bt316.2 = true then (if bt318.2 = true then (some (wrap64 (-(wrap64 ((wrap64 (bt316.1 * 60)) + bt318.1))), decide (bt318.1 ≤ 59))) else (some (wrap64 (-(wrap64 ((wrap64 (bt316.1 * 60)) + bt318.1))), false))) else (some (wrap64 (-(wrap64 ((wrap64 (bt316.1 * 60)) + bt318.1))), false))) else (if bt316.2 = true then (if bt318.2 = true then (some (wrap64 ((wrap64 (bt316.1 * 60)) + bt318.1), decide (bt318.1 ≤ 59))) else (some (wrap64 ((wrap64 (bt316.1 * 60)) + bt318.1), false))) else (some (wrap64 ((wrap64 (bt316.1 * 60)) + bt318.1), false)))) else (none)))) else (none)) else (none))
end
def spec_l4Offset.f (k : Nat) (a0 : ByteArray) : Option (Int × Bool) := if a0.toList = ([71, 77, 84] : List UInt8) then (spec_l4Offset.j0 k a0 true) else (spec_l4Offset.j0 k a0 (a0.toList == ([85, 84] : List UInt8)))
theorem spec_l4Offset.mono_l : ∀ k, (∀ y0 y1, LeO (spec_l4Offset.j0 k y0 y1) (spec_l4Offset.j0 (k + 1) y0 y1)) ∧ (∀ y0 y1, LeO (spec_l4Offset.j1 k y0 y1) (spec_l4Offset.j1 (k + 1) y0 y1))
 | 0 => ⟨fun _ _ r h => by simp [spec_l4Offset.j0] at h, fun _ _ r h => by simp [spec_l4Offset.j1] at h⟩
 | k + 1 => by
  obtain ⟨ih0, ih1⟩ := spec_l4Offset.mono_l k
  refine ⟨?_, ?_⟩
  ·intro y0 y1
   unfold spec_l4Offset.j0
   repeat' first
   | (with_reducible exact ih0 _ _)
   | (with_reducible exact ih1 _ _)
   | (with_reducible exact spec_l4Digits.mono _ _ _ _)
   | (with_reducible exact LeO.refl _)
   | (with_reducible exact LeO.none _)
   | (with_reducible refine LeO.ite ?_ ?_)
   | (with_reducible refine LeO.bind ?_ (fun _ => ?_))
  intro y0 y1
  unfold spec_l4Offset.j1
  repeat' first
  | (with_reducible exact ih0 _ _)
  | (with_reducible exact ih1 _ _)
  | (with_reducible exact spec_l4Digits.mono _ _ _ _)
  | (with_reducible exact LeO.refl _)
  | (with_reducible exact LeO.none _)
  | (with_reducible refine LeO.ite ?_ ?_)
  | (with_reducible refine LeO.bind ?_ (fun _ => ?_))
theorem spec_l4Offset.mono : ∀ a0 k, LeO (spec_l4Offset.f k a0) (spec_l4Offset.f (k + 1) a0) := by
 intro a0 k
 obtain ⟨ih0, ih1⟩ := spec_l4Offset.mono_l k
 unfold spec_l4Offset.f
 repeat' first
   | (with_reducible exact ih0 _ _)
   | (with_reducible exact ih1 _ _)
   | (with_reducible exact spec_l4Digits.mono _ _ _ _)
   | (with_reducible exact LeO.refl _)
   | (with_reducible exact LeO.none _)
   | (with_reducible refine LeO.ite ?_ ?_)
   | (with_reducible refine LeO.bind ?_ (fun _ => ?_))
set_option maxHeartbeats 8000000 in
set_option maxRecDepth 100000 in
theorem spec_l4Offset.calls (k : Nat) (a0 : ByteArray) (r1 : Int) (r2 : Bool) (w : World) (h : spec_l4Offset.f k a0 = some (r1, r2)) :
  Calls Tryd.prog 47 #[.string a0] w fun e w' => e = .returned (.tuple #[.int .i64 r1, .bool r2]) ∧ Drawn0 w w' := by
 have H : (if a0.toList = ([71, 77, 84] : List UInt8) then (spec_l4Offset.j0 k a0 true) else (spec_l4Offset.j0 k a0 (a0.toList == ([85, 84] : List UInt8)))) = some (r1, r2) := h
 clear h
 have HC2 := Aside0.mk H
 clear H
 go_enter Tryd.func47, Tryd.ntmps47
 go_upto_region 1 with (fail)
 go_cut [14] (fun v14 wc => ∃ (kq : Nat) (x14_1 : Bool), v14 = .bool x14_1 ∧ Aside0 (spec_l4Offset.j0 kq a0 x14_1 = some (r1, r2)) ∧ Aside0 (kq ≤ k) ∧ Drawn0 w wc)
 case first =>
  have H := HC2.out
  clear HC2
  by_cases c3 : a0.toList = ([71, 77, 84] : List UInt8)
  ·rw [if_pos c3] at H
   have c3b0 : (a0.toList == ([71, 77, 84] : List UInt8)) = true := beq_iff_eq.mpr c3
   have c3b1 : (a0.toList != ([71, 77, 84] : List UInt8)) = false := bne_eq_false_iff_eq.mpr c3
   clear c3
   (first | rw [c3b0] | (simp only [i64_w, i32_w]; rw [c3b0]) | skip)
   have H' := Aside0.mk H
   clear H
   go_wp2
   go_meet
   case rel => exact ⟨_, (true), (by first | rfl | (simp; done) | (simp [*]; done)), H', ⟨by first | omega | exact Nat.le_refl _⟩, by repeat (first | exact Drawn0.refl _ | apply Drawn0.step)⟩
  rw [if_neg c3] at H
  have c3b0 : (a0.toList == ([71, 77, 84] : List UInt8)) = false := beq_eq_false_iff_ne.mpr c3
  have c3b1 : (a0.toList != ([71, 77, 84] : List UInt8)) = true := bne_iff_ne.mpr c3
  (first | rw [c3b0] | (simp only [i64_w, i32_w]; rw [c3b0]) | skip)
  have H' := Aside0.mk H
  clear H
  go_wp2
  go_meet
  case rel => exact ⟨_, ((a0.toList == ([85, 84] : List UInt8))), (by first | rfl | (simp; done) | (simp [*]; done)), H', ⟨by first | omega | exact Nat.le_refl _⟩, by repeat (first | exact Drawn0.refl _ | apply Drawn0.step)⟩
 case rest =>
  clear HC2
  try clear p2
  try clear c3
  try clear c3b0
  try clear c3b1
  obtain ⟨kq, x14_1, rfl, HA, HJ1, ⟨mc1, rfl⟩⟩ := hcut
  cases kq with
  | zero => exact absurd HA.out (by simp [spec_l4Offset.j0])
  | succ kj1 =>
   have H := HA.out; clear HA
   simp only [spec_l4Offset.j0] at H
   by_cases c4 : x14_1 = true
   ·subst c4
    rw [if_pos rfl] at H
    simp only [Option.some.injEq, Prod.mk.injEq] at H
    obtain ⟨rfl, rfl⟩ := H
    go_wp2
    go_ret2
    exact ⟨by first | rfl | (simp; done) | (simp [*]; done), by repeat (first | exact Drawn0.refl _ | apply Drawn0.step)⟩
   replace c4 := Bool.eq_false_iff.mpr c4
   subst c4
   rw [if_neg (show ¬ (false = true) by decide)] at H; have HC5 := Aside0.mk H; clear H
   go_upto_region 3 with (fail)
   go_cut [27] (fun v27 wc => ∃ (kq : Nat) (x27_4 : Bool), v27 = .bool x27_4 ∧ Aside0 (spec_l4Offset.j1 kq a0 x27_4 = some (r1, r2)) ∧ Aside0 (kq ≤ kj1) ∧ Drawn0 w wc)
   case first =>
    have H := HC5.out; clear HC5
    by_cases c6 : (a0.size : Int) = 5
    ·rw [if_pos c6] at H
     have c6b0 : ((a0.size : Int) == 5) = true := beq_iff_eq.mpr c6
     have c6b1 : ((a0.size : Int) != 5) = false := bne_eq_false_iff_eq.mpr c6
     clear c6
     (first | rw [c6b0] | (simp only [i64_w, i32_w]; rw [c6b0]) | skip)
     by_cases c7 : 0 < (a0.size : Int)
     rotate_left
     ·rw [if_neg c7] at H
      exact absurd H (by simp)
     rw [if_pos c7] at H
     have c7b0 : decide (0 < (a0.size : Int)) = true := decide_eq_true c7
     have c7b1 : decide (0 < a0.size) = true := decide_eq_true (by omega)
     clear c7
     by_cases c9 : (bt a0 0) = 43
     ·rw [if_pos c9] at H
      have c9b0 : ((bt a0 0) == 43) = true := beq_iff_eq.mpr c9
      have c9b1 : ((bt a0 0) != 43) = false := bne_eq_false_iff_eq.mpr c9
      clear c9
      have H' := Aside0.mk H
      clear H
      have p8 : 0 ≤ (0 : Int) := (by omega)
      have q8 : 0 < a0.size := (by have : (0 : Int) < (a0.size : Int) := of_decide_eq_true (by first | (with_reducible assumption) | assumption); omega)
      have hx8 : ∀ h : 0 < a0.size, ((a0[0]'h).toNat : Int) = bt a0 0 := bt_at a0 0
      clear p8
      have qi8 : (0 < (a0.size : Int)) = True := eq_true (of_decide_eq_true (by first | (with_reducible assumption) | assumption))
      replace q8 := eq_true q8
      go_wp2
      go_meet
      case rel => exact ⟨_, (false), (by first | rfl | (simp; done) | (simp [*]; done)), H', ⟨by have := HJ1.out; first | omega | exact Nat.le_refl _⟩, by repeat (first | exact Drawn0.refl _ | apply Drawn0.step)⟩
     rw [if_neg c9] at H
     have c9b0 : ((bt a0 0) == 43) = false := beq_eq_false_iff_ne.mpr c9
     have c9b1 : ((bt a0 0) != 43) = true := bne_iff_ne.mpr c9
     have H' := Aside0.mk H
     clear H
     have p8 : 0 ≤ (0 : Int) := (by omega)
     have q8 : 0 < a0.size := (by have : (0 : Int) < (a0.size : Int) := of_decide_eq_true (by first | (with_reducible assumption) | assumption); omega)
     have hx8 : ∀ h : 0 < a0.size, ((a0[0]'h).toNat : Int) = bt a0 0 := bt_at a0 0
     clear p8
     have qi8 : (0 < (a0.size : Int)) = True := eq_true (of_decide_eq_true (by first | (with_reducible assumption) | assumption))
     replace q8 := eq_true q8
     have p10 : 0 ≤ (0 : Int) := (by omega)
     have q10 : 0 < a0.size := (by have : (0 : Int) < (a0.size : Int) := of_decide_eq_true (by first | (with_reducible assumption) | assumption); omega)
     have hx10 : ∀ h : 0 < a0.size, ((a0[0]'h).toNat : Int) = bt a0 0 := bt_at a0 0
     clear p10
     have qi10 : (0 < (a0.size : Int)) = True := eq_true (of_decide_eq_true (by first | (with_reducible assumption) | assumption))
     replace q10 := eq_true q10
     go_wp2
     go_meet
     case rel => exact ⟨_, (((bt a0 0) != 45)), (by first | rfl | (simp; done) | (simp [*]; done)), H', ⟨by have := HJ1.out; first | omega | exact Nat.le_refl _⟩, by repeat (first | exact Drawn0.refl _ | apply Drawn0.step)⟩
    rw [if_neg c6] at H
    have c6b0 : ((a0.size : Int) == 5) = false := beq_eq_false_iff_ne.mpr c6
    have c6b1 : ((a0.size : Int) != 5) = true := bne_iff_ne.mpr c6
    (first | rw [c6b0] | (simp only [i64_w, i32_w]; rw [c6b0]) | skip)
    have H' := Aside0.mk H
    clear H
    go_wp2
    go_meet
    case rel => exact ⟨_, (true), (by first | rfl | (simp; done) | (simp [*]; done)), H', ⟨by have := HJ1.out; first | omega | exact Nat.le_refl _⟩, by repeat (first | exact Drawn0.refl _ | apply Drawn0.step)⟩
   case rest =>
    clear HC5
    try clear c1
    try clear p1
    try clear q1
    try clear hx1
    try clear qi1
    try clear p2
    try clear c3
    try clear c3b0
    try clear c3b1
    try clear c4
    try clear c6
    try clear c6b0
    try clear c6b1
    try clear c7
    try clear c7b0
    try clear c7b1
    try clear p8
    try clear q8
    try clear hx8
    try clear qi8
    try clear c9
    try clear c9b0
    try clear c9b1
    try clear p10
    try clear q10
    try clear hx10
    try clear qi10
    try clear p10
    try clear p2
    try clear p8
    try clear q10
    try clear q8
    obtain ⟨kq, x27_4, rfl, HA, HJ4, ⟨mc4, rfl⟩⟩ := hcut
    cases kq with
    | zero => exact absurd HA.out (by simp [spec_l4Offset.j1])
    | succ kj4 =>
     have H := HA.out; clear HA
     simp only [spec_l4Offset.j1] at H
     by_cases c11 : x27_4 = true
     ·subst c11
      rw [if_pos rfl] at H
      simp only [Option.some.injEq, Prod.mk.injEq] at H
      obtain ⟨rfl, rfl⟩ := H
      go_wp2
      go_ret2
      exact ⟨by first | rfl | (simp; done) | (simp [*]; done), by repeat (first | exact Drawn0.refl _ | apply Drawn0.step)⟩
     replace c11 := Bool.eq_false_iff.mpr c11
     subst c11
     rw [if_neg (show ¬ (false = true) by decide)] at H
     by_cases c12 : 1 ≤ 3
     rw [if_pos c12] at H
     have c12b0 := eq_true c12
     have c12b1 : decide (1 ≤ 3) = true := decide_eq_true c12
     clear c12
     by_cases c13 : 3 ≤ (a0.size : Int)
     rw [if_pos c13] at H
     have c13b0 := eq_true c13
     have c13b1 : decide (3 ≤ (a0.size : Int)) = true := decide_eq_true c13
     clear c13; replace H := Option.bind_eq_some_iff.mp H
     obtain ⟨⟨t316, t317⟩, A140, H⟩ := H
     (try dsimp only at H)
     have A14 := Aside0.mk A140; clear A140; have c15b0 := eq_true (of_decide_eq_true (by first | (with_reducible assumption) | assumption) : 3 ≤ (a0.size : Int)); replace H := Option.bind_eq_some_iff.mp H
     obtain ⟨⟨t318, t319⟩, A160, H⟩ := H
     (try dsimp only at H)
     have A16 := Aside0.mk A160; clear A160
     by_cases c17 : 0 < (a0.size : Int)
     rw [if_pos c17] at H
     have c17b0 : decide (0 < (a0.size : Int)) = true := decide_eq_true c17
     have c17b1 : decide (0 < a0.size) = true := decide_eq_true (by omega)
     clear c17
     by_cases c19 : (bt a0 0) = 45
     rw [if_pos c19] at H
     have c19b0 : ((bt a0 0) == 45) = true := beq_iff_eq.mpr c19
     have c19b1 : ((bt a0 0) != 45) = false := bne_eq_false_iff_eq.mpr c19
     clear c19
     by_cases c20 : t317 = true
     subst c20
     rw [if_pos rfl] at H
     by_cases c21 : t319 = true
     subst c21
     rw [if_pos rfl] at H
     simp only [Option.some.injEq, Prod.mk.injEq] at H
     obtain ⟨rfl, rfl⟩ := H
     have lf0 := trivial; rotate_left
     replace c21 := Bool.eq_false_iff.mpr c21
     subst c21
     rw [if_neg (show ¬ (false = true) by decide)] at H
     simp only [Option.some.injEq, Prod.mk.injEq] at H
     obtain ⟨rfl, rfl⟩ := H
     have lf1 := trivial; rotate_left
     replace c20 := Bool.eq_false_iff.mpr c20
     subst c20
     rw [if_neg (show ¬ (false = true) by decide)] at H
     simp only [Option.some.injEq, Prod.mk.injEq] at H
     obtain ⟨rfl, rfl⟩ := H
     have lf2 := trivial; rotate_left
     rw [if_neg c19] at H
     have c19b0 : ((bt a0 0) == 45) = false := beq_eq_false_iff_ne.mpr c19
     have c19b1 : ((bt a0 0) != 45) = true := bne_iff_ne.mpr c19
     by_cases c22 : t317 = true
     subst c22
     rw [if_pos rfl] at H
     by_cases c23 : t319 = true
     subst c23
     rw [if_pos rfl] at H
     simp only [Option.some.injEq, Prod.mk.injEq] at H
     obtain ⟨rfl, rfl⟩ := H
     have lf3 := trivial; rotate_left
     replace c23 := Bool.eq_false_iff.mpr c23
     subst c23
     rw [if_neg (show ¬ (false = true) by decide)] at H
     simp only [Option.some.injEq, Prod.mk.injEq] at H
     obtain ⟨rfl, rfl⟩ := H
     have lf4 := trivial; rotate_left
     replace c22 := Bool.eq_false_iff.mpr c22
     subst c22
     rw [if_neg (show ¬ (false = true) by decide)] at H
     simp only [Option.some.injEq, Prod.mk.injEq] at H
     obtain ⟨rfl, rfl⟩ := H
     have lf5 := trivial; rotate_left
     rw [if_neg c17] at H
     exact absurd H (by simp)
     rw [if_neg c13] at H
     exact absurd H (by simp)
     rw [if_neg c12] at H
     exact absurd H (by simp)
     all_goals
      go_wp2_with (first | ((first | have _ := lf1 | have _ := lf4); ((with_reducible refine gate_callee (f := 44) rfl ?_); refine goesL_ (some 37) rfl rfl Tryd.func44 (by kernel_rfl) rfl #[.string (a0.extract 3 a0.size), .int .i64 2, .int .i64 2] rfl (by (try simp only [List.map_toArray, List.map_cons, List.map_nil]) <;> rfl) ?_; (with_reducible refine (spec_l4Digits.calls kj4 (a0.extract 3 a0.size) 2 2 t318 false _ A16.out).mono ?_); rintro e w' ⟨rfl, ⟨nd, rfl⟩⟩; refine ⟨_, rfl, ?_⟩; have pL0 : 0 ≤ (0 : Int) := (by omega); have qL0 : 0 < a0.size := (by have : (0 : Int) < (a0.size : Int) := of_decide_eq_true (by first | (with_reducible assumption) | assumption); omega); have hxL0 : ∀ h : 0 < a0.size, ((a0[0]'h).toNat : Int) = bt a0 0 := bt_at a0 0; clear pL0; have qiL0 : (0 < (a0.size : Int)) = True := eq_true (of_decide_eq_true (by first | (with_reducible assumption) | assumption)); replace qL0 := eq_true qL0)) | ((first | have _ := lf2 | have _ := lf5); ((with_reducible refine gate_callee (f := 44) rfl ?_); refine goesL_ (some 31) rfl rfl Tryd.func44 (by kernel_rfl) rfl #[.string (a0.extract 1 3), .int .i64 2, .int .i64 2] rfl (by (try simp only [List.map_toArray, List.map_cons, List.map_nil]) <;> rfl) ?_; (with_reducible refine (spec_l4Digits.calls kj4 (a0.extract 1 3) 2 2 t316 false _ A14.out).mono ?_); rintro e w' ⟨rfl, ⟨nd, rfl⟩⟩; refine ⟨_, rfl, ?_⟩)) | ((first | have _ := lf2 | have _ := lf5); ((with_reducible refine gate_callee (f := 44) rfl ?_); refine goesL_ (some 37) rfl rfl Tryd.func44 (by kernel_rfl) rfl #[.string (a0.extract 3 a0.size), .int .i64 2, .int .i64 2] rfl (by (try simp only [List.map_toArray, List.map_cons, List.map_nil]) <;> rfl) ?_; (with_reducible refine (spec_l4Digits.calls kj4 (a0.extract 3 a0.size) 2 2 t318 t319 _ A16.out).mono ?_); rintro e w' ⟨rfl, ⟨nd, rfl⟩⟩; refine ⟨_, rfl, ?_⟩; have pL0 : 0 ≤ (0 : Int) := (by omega); have qL0 : 0 < a0.size := (by have : (0 : Int) < (a0.size : Int) := of_decide_eq_true (by first | (with_reducible assumption) | assumption); omega); have hxL0 : ∀ h : 0 < a0.size, ((a0[0]'h).toNat : Int) = bt a0 0 := bt_at a0 0; clear pL0; have qiL0 : (0 < (a0.size : Int)) = True := eq_true (of_decide_eq_true (by first | (with_reducible assumption) | assumption)); replace qL0 := eq_true qL0)) | ((with_reducible refine gate_callee (f := 44) rfl ?_); refine goesL_ (some 31) rfl rfl Tryd.func44 (by kernel_rfl) rfl #[.string (a0.extract 1 3), .int .i64 2, .int .i64 2] rfl (by (try simp only [List.map_toArray, List.map_cons, List.map_nil]) <;> rfl) ?_; (with_reducible refine (spec_l4Digits.calls kj4 (a0.extract 1 3) 2 2 t316 true _ A14.out).mono ?_); rintro e w' ⟨rfl, ⟨nd, rfl⟩⟩; refine ⟨_, rfl, ?_⟩) | ((with_reducible refine gate_callee (f := 44) rfl ?_); refine goesL_ (some 37) rfl rfl Tryd.func44 (by kernel_rfl) rfl #[.string (a0.extract 3 a0.size), .int .i64 2, .int .i64 2] rfl (by (try simp only [List.map_toArray, List.map_cons, List.map_nil]) <;> rfl) ?_; (with_reducible refine (spec_l4Digits.calls kj4 (a0.extract 3 a0.size) 2 2 t318 true _ A16.out).mono ?_); rintro e w' ⟨rfl, ⟨nd, rfl⟩⟩; refine ⟨_, rfl, ?_⟩; have pL0 : 0 ≤ (0 : Int) := (by omega); have qL0 : 0 < a0.size := (by have : (0 : Int) < (a0.size : Int) := of_decide_eq_true (by first | (with_reducible assumption) | assumption); omega); have hxL0 : ∀ h : 0 < a0.size, ((a0[0]'h).toNat : Int) = bt a0 0 := bt_at a0 0; clear pL0; have qiL0 : (0 < (a0.size : Int)) = True := eq_true (of_decide_eq_true (by first | (with_reducible assumption) | assumption)); replace qL0 := eq_true qL0))
      go_ret2
      exact ⟨by first | rfl | (simp; done) | (simp [*]; done), by repeat (first | exact Drawn0.refl _ | apply Drawn0.step)⟩
end Go.Proofs.YtafpbechcjcdbaaDoor.PFnDateText
