-- By a program of this session.
import Derived.Test.YtafpbechcjcdbaaDoorPFnDateTextx0
import Derived.Test.YtafpbechcjcdbaaDoorPFnDateTextx5
import Derived.Test.YtafpbechcjcdbaaDoorPFnDateTextx6
namespace Go.Proofs.YtafpbechcjcdbaaDoor.PFnDateText
open Go.RowKit Go.Proofs.YtafpbechcjcdbaaDoorW.PrintWords Go.Proofs.YtafpbechcjcdbaaDoorW.PrintLast Go.Proofs.YtafpbechcjcdbaaDoorW.PrintMore
open Go.Proofs.YtafpbechcjcdbaaDoorW.PrintWords renaming blk_cell → Ba, blk_frozen → Bb, pw_below_drewN → Bc, below_drew1 → Bd, below_alloc → Be, blk_drewN → Bf, blk_alloc → Bg, blk_drew → Bh, below_set → Bs
open Go.Proofs.YtafpbechcjcdbaaDoorW.PrintWords.Aside0 renaming mk → aM
open Option renaming bind_eq_some_iff → bI
open Bool renaming true → Y, false → X
open List renaming setIfInBounds_toArray → sA, set_cons_zero → sZ, set_cons_succ → sS, map_toArray → mT, map_cons → mC, map_nil → mN, length_drop → lD, length_take → lT
attribute [local go_sem] max2_int min2_int max_two min_two max_three min_three max_four min_four
set_option linter.unusedVariables false
set_option linter.unusedSimpArgs false
def impl_FormatDate.j0 : Nat → ByteArray → Int → Int → Int → Int → Int → Int → Int → Int → Option (ByteArray)
 | 0, _, _, _, _, _, _, _, _, _ => none
 | k + 1, x3, x4, x228000, x228001, x228002, x228003, x228004, x228005, x228006 => (impl_WeekdayOf.f k x228000 x228001 x228002 x228003 x228004 x228005 x228006).bind fun t229 => (if t229.size + 2 ≤ 9223372036854775807 then ((impl_decimal.f k x228002 1).bind fun t230 => (if (t229 ++ (⟨#[44, 32]⟩ : ByteArray)).size + t230.size ≤ 9223372036854775807 then (if ((t229 ++ (⟨#[44, 32]⟩ : ByteArray)) ++ t230).size + 1 ≤ 9223372036854775807 then (if 0 ≤ (wrap64 (x228001 - 1)) then (if (wrap64 (x228001 - 1)) < 12 then (if (((t229 ++ (⟨#[44, 32]⟩ : ByteArray)) ++ t230) ++ (⟨#[32]⟩ : ByteArray)).size + (rdOf ByteArray.empty monL (wrap64 (x228001 - 1))).size ≤ 9223372036854775807 then (if ((((t229 ++ (⟨#[44, 32]⟩ : ByteArray)) ++ t230) ++ (⟨#[32]⟩ : ByteArray)) ++ (rdOf ByteArray.empty monL (wrap64 (x228001 - 1)))).size + 1 ≤ 9223372036854775807 then ((impl_decimal.f k x228000 4).bind fun t232 => (if (((((t229 ++ (⟨#[44, 32]⟩ : ByteArray)) ++ t230) ++ (⟨#[32]⟩ : ByteArray)) ++ (rdOf ByteArray.empty monL (wrap64 (x228001 - 1)))) ++ (⟨#[32]⟩ : ByteArray)).size + t232.size ≤ 9223372036854775807 then (if ((((((t229 ++ (⟨#[44, 32]⟩ : ByteArray)) ++ t230) ++ (⟨#[32]⟩ : ByteArray)) ++ (rdOf ByteArray.empty monL (wrap64 (x228001 - 1)))) ++ (⟨#[32]⟩ : ByteArray)) ++ t232).size + 1 ≤ 9223372036854775807 then ((impl_decimal.f k x228003 2).bind fun t233 => (if (((((((t229 ++ (⟨#[44, 32]⟩ : ByteArray)) ++ t230) ++ (⟨#[32]⟩ : ByteArray)) ++ (rdOf ByteArray.empty monL (wrap64 (x228001 - 1)))) ++ (⟨#[32]⟩ : ByteArray)) ++ t232) ++ (⟨#[32]⟩ : ByteArray)).size + t233.size ≤ 9223372036854775807 then (if ((((((((t229 ++ (⟨#[44, 32]⟩ : ByteArray)) ++ t230) ++ (⟨#[32]⟩ : ByteArray)) ++ (rdOf ByteArray.empty monL (wrap64 (x228001 - 1)))) ++ (⟨#[32]⟩ : ByteArray)) ++ t232) ++ (⟨#[32]⟩ : ByteArray)) ++ t233).size + 1 ≤ 9223372036854775807 then ((impl_decimal.f k x228004 2).bind fun t234 => (if (((((((((t229 ++ (⟨#[44, 32]⟩ : ByteArray)) ++ t230) ++ (⟨#[32]⟩ : ByteArray)) ++ (rdOf ByteArray.empty monL (wrap64 (x228001 - 1)))) ++ (⟨#[32]⟩ : ByteArray)) ++ t232) ++ (⟨#[32]⟩ : ByteArray)) ++ t233) ++ (⟨#[58]⟩ : ByteArray)).size + t234.size ≤ 9223372036854775807 then (if ((((((((((t229 ++ (⟨#[44, 32]⟩ : ByteArray)) ++ t230) ++ (⟨#[32]⟩ : ByteArray)) ++ (rdOf ByteArray.empty monL (wrap64 (x228001 - 1)))) ++ (⟨#[32]⟩ : ByteArray)) ++ t232) ++ (⟨#[32]⟩ : ByteArray)) ++ t233) ++ (⟨#[58]⟩ : ByteArray)) ++ t234).size + 1 ≤ 9223372036854775807 then ((impl_decimal.f k x228005 2).bind fun t235 => (if (((((((((((t229 ++ (⟨#[44, 32]⟩ : ByteArray)) ++ t230) ++ (⟨#[32]⟩ : ByteArray)) ++ (rdOf ByteArray.empty monL (wrap64 (x228001 - 1)))) ++ (⟨#[32]⟩ : ByteArray)) ++ t232) ++ (⟨#[32]⟩ : ByteArray)) ++ t233) ++ (⟨#[58]⟩ : ByteArray)) ++ t234) ++ (⟨#[58]⟩ : ByteArray)).size + t235.size ≤ 9223372036854775807 then (if ((((((((((((t229 ++ (⟨#[44, 32]⟩ : ByteArray)) ++ t230) ++ (⟨#[32]⟩ : ByteArray)) ++ (rdOf ByteArray.empty monL (wrap64 (x228001 - 1)))) ++ (⟨#[32]⟩ : ByteArray)) ++ t232) ++ (⟨#[32]⟩ : ByteArray)) ++ t233) ++ (⟨#[58]⟩ : ByteArray)) ++ t234) ++ (⟨#[58]⟩ : ByteArray)) ++ t235).size + x3.size ≤ 9223372036854775807 then ((impl_decimal.f k (wrap64 (Int.tdiv x4 60)) 2).bind fun t236 => (if (((((((((((((t229 ++ (⟨#[44, 32]⟩ : ByteArray)) ++ t230) ++ (⟨#[32]⟩ : ByteArray)) ++ (rdOf ByteArray.empty monL (wrap64 (x228001 - 1)))) ++ (⟨#[32]⟩ : ByteArray)) ++ t232) ++ (⟨#[32]⟩ : ByteArray)) ++ t233) ++ (⟨#[58]⟩ : ByteArray)) ++ t234) ++ (⟨#[58]⟩ : ByteArray)) ++ t235) ++ x3).size + t236.size ≤ 9223372036854775807 then ((impl_decimal.f k (Int.tmod x4 60) 2).bind fun t237 => (if ((((((((((((((t229 ++ (⟨#[44, 32]⟩ : ByteArray)) ++ t230) ++ (⟨#[32]⟩ : ByteArray)) ++ (rdOf ByteArray.empty monL (wrap64 (x228001 - 1)))) ++ (⟨#[32]⟩ : ByteArray)) ++ t232) ++ (⟨#[32]⟩ : ByteArray)) ++ t233) ++ (⟨#[58]⟩ : ByteArray)) ++ t234) ++ (⟨#[58]⟩ : ByteArray)) ++ t235) ++ x3) ++ t236).size + t237.size ≤ 9223372036854775807 then (some (((((((((((((((t229 ++ (⟨#[44, 32]⟩ : ByteArray)) ++ t230) ++ (⟨#[32]⟩ : ByteArray)) ++ (rdOf ByteArray.empty monL (wrap64 (x228001 - 1)))) ++ (⟨#[32]⟩ : ByteArray)) ++ t232) ++ (⟨#[32]⟩ : ByteArray)) ++ t233) ++ (⟨#[58]⟩ : ByteArray)) ++ t234) ++ (⟨#[58]⟩ : ByteArray)) ++ t235) ++ x3) ++ t236) ++ t237)) else (none))) else (none))) else (none)) else (none))) else (none)) else (none))) else (none)) else (none))) else (none)) else (none))) else (none)) else (none)) else (none)) else (none)) else (none)) else (none))) else (none))
def impl_FormatDate.f (k : Nat) (a0_0 : Int) (a0_1 : Int) (a0_2 : Int) (a0_3 : Int) (a0_4 : Int) (a0_5 : Int) (a0_6 : Int) : Option (ByteArray) := (impl_DateValid.f k a0_0 a0_1 a0_2 a0_3 a0_4 a0_5 a0_6).bind fun t228 => (if t228 = true then (if a0_6 < 0 then (impl_FormatDate.j0 k (⟨#[32, 45]⟩ : ByteArray) (wrap64 (-a0_6)) a0_0 a0_1 a0_2 a0_3 a0_4 a0_5 a0_6) else (impl_FormatDate.j0 k (⟨#[32, 43]⟩ : ByteArray) a0_6 a0_0 a0_1 a0_2 a0_3 a0_4 a0_5 a0_6)) else (some (⟨#[]⟩ : ByteArray)))
theorem impl_FormatDate.mono_l : ∀ k, (∀ y0 y1 y2 y3 y4 y5 y6 y7 y8, LeO (impl_FormatDate.j0 k y0 y1 y2 y3 y4 y5 y6 y7 y8) (impl_FormatDate.j0 (k + 1) y0 y1 y2 y3 y4 y5 y6 y7 y8))
 | 0 => fun _ _ _ _ _ _ _ _ _ r h => by simp [impl_FormatDate.j0] at h
 | k + 1 => by
  have ih0 := impl_FormatDate.mono_l k
  intro y0 y1 y2 y3 y4 y5 y6 y7 y8
  unfold impl_FormatDate.j0
  repeat' first
  | (with_reducible exact ih0 _ _ _ _ _ _ _ _ _)
  | (with_reducible exact impl_DateValid.mono _ _ _ _ _ _ _ _)
  | (with_reducible exact impl_WeekdayOf.mono _ _ _ _ _ _ _ _)
  | (with_reducible exact impl_decimal.mono _ _ _)
  | (with_reducible exact LeO.refl _)
  | (with_reducible exact LeO.none _)
  | (with_reducible refine LeO.ite ?_ ?_)
  | (with_reducible refine LeO.bind ?_ (fun _ => ?_))
theorem impl_FormatDate.mono : ∀ a0 a1 a2 a3 a4 a5 a6 k, LeO (impl_FormatDate.f k a0 a1 a2 a3 a4 a5 a6) (impl_FormatDate.f (k + 1) a0 a1 a2 a3 a4 a5 a6) := by
 intro a0 a1 a2 a3 a4 a5 a6 k
 have ih0 := impl_FormatDate.mono_l k
 unfold impl_FormatDate.f
 repeat' first
   | (with_reducible exact ih0 _ _ _ _ _ _ _ _ _)
   | (with_reducible exact impl_DateValid.mono _ _ _ _ _ _ _ _)
   | (with_reducible exact impl_WeekdayOf.mono _ _ _ _ _ _ _ _)
   | (with_reducible exact impl_decimal.mono _ _ _)
   | (with_reducible exact LeO.refl _)
   | (with_reducible exact LeO.none _)
   | (with_reducible refine LeO.ite ?_ ?_)
   | (with_reducible refine LeO.bind ?_ (fun _ => ?_))
def impl_FormatDate.T6 : Bool × List (List Nat × List Nat) := (true, [([], []), ([0], [0]), ([1], [1]), ([], []), ([3], [3]), ([4, 1], [4]), ([2, 5], [2, 5]), ([6], [6]), ([], []), ([8], [8]), ([9], [9]), ([10], [10]), ([11], [11]), ([7, 12], [7, 12]), ([13], [13]), ([], []), ([15], [15]), ([16, 5], [16]), ([14, 17], [14, 17]), ([18], [18]), ([], []), ([20], [20]), ([21, 17], [21]), ([19, 22], [19, 22]), ([23], [23]), ([], []), ([25], [25]), ([26, 22], [26]), ([24, 27], [24, 27]), ([28], [28]), ([], []), ([30], [30]), ([31, 27], [31]), ([29, 32], [29, 32]), ([], []), ([33, 34], [33, 34]), ([], []), ([36], [36]), ([37, 32], [37]), ([35, 38], [35, 38]), ([], []), ([40], [40]), ([41, 38], [41]), ([39, 42], [39, 42]), ([43, 42, 0, 1, 2, 3, 4, 5, 6, 7, 8, 9, 10, 11, 12, 13, 14, 15, 16, 17, 18, 19, 20, 21, 22, 23, 24, 25, 26, 27, 28, 29, 30, 31, 32, 33, 34, 35, 36, 37, 38, 39, 40, 41, 42, 43], [43])])
def impl_FormatDate.B6 : List Nat := [0, 1, 3, 0, 8, 27, 63, 127, 0, 256, 768, 1792, 3840, 8191, 16383, 0, 32768, 98363, 262143, 524287, 0, 1048576, 3375163, 8388607, 16777215, 0, 33554432, 108232763, 268435455, 536870911, 0, 1073741824, 3463675963, 8589934591, 0, 34359738367, 0, 68719476736, 213917073467, 549755813887, 0, 1099511627776, 3787329863739, 8796093022207, 17592186044415]
theorem impl_FormatDate.tab6 : rtab .any (opsOf Tryd.f10 6) = impl_FormatDate.T6 := by kernel_rfl
theorem impl_FormatDate.bits6 : waitsOk impl_FormatDate.T6.2 impl_FormatDate.B6 = true := by kernel_rfl
set_option maxHeartbeats 8000000 in
set_option maxRecDepth 100000 in
theorem impl_FormatDate.calls (k : Nat) (a0_0 : Int) (a0_1 : Int) (a0_2 : Int) (a0_3 : Int) (a0_4 : Int) (a0_5 : Int) (a0_6 : Int) (r : ByteArray) (w : World) (h : impl_FormatDate.f k a0_0 a0_1 a0_2 a0_3 a0_4 a0_5 a0_6 = some r) (hS : AmbM w := by repeat (first | (with_reducible assumption) | assumption | (with_reducible apply AmbM.drewN) | (with_reducible apply AmbM.drew) | (with_reducible apply AmbM.alloc) | exact AmbM.below (by assumption) (Aside0.out (by assumption)) | exact AmbM.below (by assumption) (by assumption) | exact AmbM.below (by assumption) (by repeat (first | exact Aside0.out (by assumption) | apply below_alloc | apply pw_below_drewN | apply below_drew1 | refine Bs ?_ (Aside0.out (by assumption)))))) :
  Calls Tryd.prog 10 #[.agg #[.int .i64 a0_0, .int .i64 a0_1, .int .i64 a0_2, .int .i64 a0_3, .int .i64 a0_4, .int .i64 a0_5, .int .i64 a0_6]] w fun e w' => e = .returned (.string r) ∧ Below w.heap.size w w' := by
 have HRg0 := aM hS.read
 have hu24 := Tryd.underlying24
 have HB := aM (Below.refl w.heap.size w)
 have H : ((impl_DateValid.f k a0_0 a0_1 a0_2 a0_3 a0_4 a0_5 a0_6).bind fun t228 => (if t228 = true then (if a0_6 < 0 then (impl_FormatDate.j0 k (⟨#[32, 45]⟩ : ByteArray) (wrap64 (-a0_6)) a0_0 a0_1 a0_2 a0_3 a0_4 a0_5 a0_6) else (impl_FormatDate.j0 k (⟨#[32, 43]⟩ : ByteArray) a0_6 a0_0 a0_1 a0_2 a0_3 a0_4 a0_5 a0_6)) else (some (⟨#[]⟩ : ByteArray)))) = some r := h
 clear h
 replace H := bI.mp H
 obtain ⟨t228, A20, H⟩ := H
 (try dsimp only at H)
 have A2 := aM A20
 clear A20
 by_cases c3 : t228 = true
 rotate_left
 ·replace c3 := Bool.eq_false_iff.mpr c3
  subst c3
  have H1 : (some (⟨#[]⟩ : ByteArray)) = some r := by rw [if_neg (show ¬ (false = true) by decide)] at H; exact H
  clear H
  have H := H1
  clear H1
  obtain rfl := Option.some.inj H
  go_enter Tryd.func10, Tryd.ntmps10
  go_wp2_with (first | ((with_reducible refine gate_dst (N := 1) rfl ?_); refine box_event ?hg (N := 1) ?hd (cs := #[.int .i64 a0_0, .int .i64 a0_1, .int .i64 a0_2, .int .i64 a0_3, .int .i64 a0_4, .int .i64 a0_5, .int .i64 a0_6]) (t := 24) ?hr ?_; (case hd => rfl); (case hg => rfl); (case hr => first | (go_simp; done) | (go_simp; rfl)); intro gb227 hg w38 hbox hb; have n0_ := aM (below_step (by repeat (with_reducible first | exact HB.out | apply Be | apply Bc | apply Bd)) hb); have n1_ := aM (hbox); have n2_ := aM ((by rw [hg]; exact (below_size (by repeat (with_reducible first | exact HB.out | apply Be | apply Bc | apply Bd))) : w.heap.size ≤ gb227)); have n3_ := n2_; clear HB; have HB := n0_; have BK227 := n1_; have GW227 := n2_; have GE227 := n3_; clear n0_ n1_ n2_ n3_; clear hb hbox hg; obtain ⟨hcz39_0, hcz39_1, hcz39_2, hcz39_3, hcz39_4, hcz39_5, hcz39_6⟩ := c7_ BK227.out; obtain ⟨hfz39_0, hfz39_1, hfz39_2, hfz39_3, hfz39_4, hfz39_5, hfz39_6⟩ := f7_ BK227.out) | ((with_reducible refine gate_callee (f := 18) rfl ?_); refine goesL_ (some 6) rfl rfl Tryd.func18 (by kernel_rfl) rfl #[.agg #[.int .i64 a0_0, .int .i64 a0_1, .int .i64 a0_2, .int .i64 a0_3, .int .i64 a0_4, .int .i64 a0_5, .int .i64 a0_6]] rfl (by (try simp only [mT, mC, mN]) <;> rfl) ?_; (with_reducible refine (impl_DateValid.calls k a0_0 a0_1 a0_2 a0_3 a0_4 a0_5 a0_6 false _ A2.out).mono ?_); rintro e w40 ⟨rfl, hb⟩; refine ⟨_, rfl, ?_⟩; have n0_ := aM (blk_below (by (with_reducible repeat (first | refine Bf ?_ _ | refine Bh ?_ | refine Bg ?_ _)); exact BK227.out) hb); have n1_ := aM (below_step (by repeat (with_reducible first | exact HB.out | apply Be | apply Bc | apply Bd | refine Bs ?_ GE227.out)) hb); clear BK227; clear HB; have BK227 := n0_; have HB := n1_; clear n0_ n1_; (try clear hb); (try clear hb2); (try clear hk); (try clear hi)))
  go_ret
  exact ⟨by first | rfl | (simp [errW_none, errW_some] <;> rfl) | (simp [*, errW_none, errW_some] <;> rfl), by repeat (with_reducible first | exact HB.out | apply Be | apply Bc | apply Bd | refine Bs ?_ GE227.out)⟩
 subst c3
 have H1 : (if a0_6 < 0 then (impl_FormatDate.j0 k (⟨#[32, 45]⟩ : ByteArray) (wrap64 (-a0_6)) a0_0 a0_1 a0_2 a0_3 a0_4 a0_5 a0_6) else (impl_FormatDate.j0 k (⟨#[32, 43]⟩ : ByteArray) a0_6 a0_0 a0_1 a0_2 a0_3 a0_4 a0_5 a0_6)) = some r := by rw [if_pos rfl] at H; exact H
 clear H
 have H := H1
 clear H1
 have HC4 := aM H
 clear H
 go_enter Tryd.func10, Tryd.ntmps10
 try go_wp2_with (first | ((with_reducible refine gate_dst (N := 1) rfl ?_); refine box_event ?hg (N := 1) ?hd (cs := #[.int .i64 a0_0, .int .i64 a0_1, .int .i64 a0_2, .int .i64 a0_3, .int .i64 a0_4, .int .i64 a0_5, .int .i64 a0_6]) (t := 24) ?hr ?_; (case hd => rfl); (case hg => rfl); (case hr => first | (go_simp; done) | (go_simp; rfl)); intro gb227 hg w5 hbox hb; have n0_ := aM (below_step (by repeat (with_reducible first | exact HB.out | apply Be | apply Bc | apply Bd)) hb); have n1_ := aM (hbox); have n2_ := aM ((by rw [hg]; exact (below_size (by repeat (with_reducible first | exact HB.out | apply Be | apply Bc | apply Bd))) : w.heap.size ≤ gb227)); have n3_ := n2_; clear HB; have HB := n0_; have BK227 := n1_; have GW227 := n2_; have GE227 := n3_; clear n0_ n1_ n2_ n3_; clear hb hbox hg; obtain ⟨hcz6_0, hcz6_1, hcz6_2, hcz6_3, hcz6_4, hcz6_5, hcz6_6⟩ := c7_ BK227.out; obtain ⟨hfz6_0, hfz6_1, hfz6_2, hfz6_3, hfz6_4, hfz6_5, hfz6_6⟩ := f7_ BK227.out) | ((with_reducible refine gate_callee (f := 18) rfl ?_); refine goesL_ (some 6) rfl rfl Tryd.func18 (by kernel_rfl) rfl #[.agg #[.int .i64 a0_0, .int .i64 a0_1, .int .i64 a0_2, .int .i64 a0_3, .int .i64 a0_4, .int .i64 a0_5, .int .i64 a0_6]] rfl (by (try simp only [mT, mC, mN]) <;> rfl) ?_; (with_reducible refine (impl_DateValid.calls k a0_0 a0_1 a0_2 a0_3 a0_4 a0_5 a0_6 true _ A2.out).mono ?_); rintro e w7 ⟨rfl, hb⟩; refine ⟨_, rfl, ?_⟩; have n0_ := aM (blk_below (by (with_reducible repeat (first | refine Bf ?_ _ | refine Bh ?_ | refine Bg ?_ _)); exact BK227.out) hb); have n1_ := aM (below_step (by repeat (with_reducible first | exact HB.out | apply Be | apply Bc | apply Bd | refine Bs ?_ GE227.out)) hb); clear BK227; clear HB; have BK227 := n0_; have HB := n1_; clear n0_ n1_; (try clear hb); (try clear hb2); (try clear hk); (try clear hi)))
 have n0_ := aM (Bh BK227.out)
 have n1_ := aM (Bd HB.out)
 clear BK227
 clear HB
 have BK227 := n0_
 have HB := n1_
 clear n0_ n1_
 refine start_ (n := 4) (S := fun w' => w'.cell? ⟨gb227, 0, none⟩ = some (.int .i64 a0_0) ∧ w'.cell? ⟨gb227, 1, none⟩ = some (.int .i64 a0_1) ∧ w'.cell? ⟨gb227, 2, none⟩ = some (.int .i64 a0_2) ∧ w'.cell? ⟨gb227, 3, none⟩ = some (.int .i64 a0_3) ∧ w'.cell? ⟨gb227, 4, none⟩ = some (.int .i64 a0_4) ∧ w'.cell? ⟨gb227, 5, none⟩ = some (.int .i64 a0_5) ∧ w'.cell? ⟨gb227, 6, none⟩ = some (.int .i64 a0_6)) (ds := []) #[false, false, false, false] (by kernel_rfl) rfl rfl (c7_ BK227.out) (fun hHeld => ?_)
 generalize w7.drew = w8 at BK227 HB hHeld ⊢
 refine pure_ (i := 0) (N := some 8) (v := ?_) (a' := ?_) #[true, false, false, false] rfl rfl (by kernel_rfl) (fun _ _ _ h => h) (Or.inl ⟨by rfl, ?_⟩) ?_ ?_
 rotate_left; (·intro w'; go_simp; (first | with_reducible rfl | (refine if_neg ?_; omega))); rotate_left; (·simp only [Act.put, sA, sZ, sS, i64_w, i32_w]; rfl)
 refine pure_ (i := 2) (N := some 3) (v := ?_) (a' := ?_) #[true, false, true, false] rfl rfl (by kernel_rfl) (fun _ _ _ h => h) (Or.inl ⟨by rfl, ?_⟩) ?_ ?_
 rotate_left; (·intro w'; go_simp; (first | with_reducible rfl | (refine if_neg ?_; omega))); rotate_left; (·simp only [Act.put, sA, sZ, sS, i64_w, i32_w]; rfl)
 refine take_ (i := 1) (N := some 9) (v := ?_) (a' := ?_) #[true, true, true, false] rfl rfl (by kernel_rfl) (fun _ _ _ h => h) (Or.inl ⟨by rfl, ?_⟩) hHeld ?_ ?_
 rotate_left; (·rintro w' ⟨s0, s1, s2, s3, s4, s5, s6⟩; go_simp; (first | with_reducible rfl | (refine if_neg ?_; omega))); rotate_left; (·simp only [Act.put, sA, sZ, sS, i64_w, i32_w]; rfl)
 refine pure_ (i := 3) (N := some 4) (v := ?_) (a' := ?_) #[true, true, true, true] rfl rfl (by kernel_rfl) (fun _ _ _ h => h) (Or.inl ⟨by rfl, ?_⟩) ?_ ?_
 rotate_left; (·intro w'; go_simp; (first | with_reducible rfl | (refine if_neg ?_; omega))); rotate_left; (·simp only [Act.put, sA, sZ, sS, i64_w, i32_w]; rfl)
 refine done_ (by kernel_rfl) ?_
 go_upto_if 11 with (fail)
 go_cut [3, 4] (fun v3 v4 wc => ∃ (kq : Nat) (x3_3 : ByteArray) (x4_3 : Int), v3 = .string x3_3 ∧ v4 = .int .i64 x4_3 ∧ Aside0 (impl_FormatDate.j0 kq x3_3 x4_3 a0_0 a0_1 a0_2 a0_3 a0_4 a0_5 a0_6 = some r) ∧ Aside0 (kq ≤ k) ∧ Aside0 (wc.heap[gb227]? = some (.cells #[.int .i64 a0_0, .int .i64 a0_1, .int .i64 a0_2, .int .i64 a0_3, .int .i64 a0_4, .int .i64 a0_5, .int .i64 a0_6] 24 (0, 0))) ∧ Aside0 (Below w.heap.size w wc))
 case first =>
  have H := HC4.out; clear HC4
  by_cases c9 : a0_6 < 0
  ·rw [if_pos c9] at H
   have c9b0 : decide (a0_6 < 0) = true := decide_eq_true c9
   clear c9
   (first | rw [c9b0] | (simp only [i64_w, i32_w]; rw [c9b0]) | skip)
   have H' := aM H
   clear H
   go_wp2
   go_meet
   case rel => exact ⟨_, ((⟨#[32, 45]⟩ : ByteArray)), (wrap64 (-a0_6)), (by first | rfl | (simp; done) | (simp [*]; done)), (by first | rfl | (simp; done) | (simp [*]; done)), H', ⟨by first | omega | exact Nat.le_refl _⟩, ⟨by (with_reducible repeat (first | refine Bf ?_ _ | refine Bh ?_ | refine Bg ?_ _)); exact BK227.out⟩, ⟨by repeat (with_reducible first | exact HB.out | apply Be | apply Bc | apply Bd | refine Bs ?_ GE227.out)⟩⟩
  rw [if_neg c9] at H
  have c9b0 : decide (a0_6 < 0) = false := decide_eq_false c9
  clear c9
  (first | rw [c9b0] | (simp only [i64_w, i32_w]; rw [c9b0]) | skip)
  have H' := aM H
  clear H
  go_wp2
  go_meet
  case rel => exact ⟨_, ((⟨#[32, 43]⟩ : ByteArray)), (a0_6), (by first | rfl | (simp; done) | (simp [*]; done)), (by first | rfl | (simp; done) | (simp [*]; done)), H', ⟨by first | omega | exact Nat.le_refl _⟩, ⟨by (with_reducible repeat (first | refine Bf ?_ _ | refine Bh ?_ | refine Bg ?_ _)); exact BK227.out⟩, ⟨by repeat (with_reducible first | exact HB.out | apply Be | apply Bc | apply Bd | refine Bs ?_ GE227.out)⟩⟩
 case rest =>
  clear HC4
  try clear c1
  try clear p2
  try clear c3
  try clear p6
  try clear c9
  try clear c9b0
  try clear hcz6_0 hcz6_1 hcz6_2 hcz6_3 hcz6_4 hcz6_5 hcz6_6
  try clear hfz6_0 hfz6_1 hfz6_2 hfz6_3 hfz6_4 hfz6_5 hfz6_6
  obtain ⟨kq, x3_3, x4_3, rfl, rfl, HA, HJ3, BK227, HB⟩ := hcut
  cases kq with
  | zero => exact absurd HA.out (by simp [impl_FormatDate.j0])
  | succ kj3 =>
   have H := HA.out; clear HA
   simp only [impl_FormatDate.j0] at H
   replace H := bI.mp H
   obtain ⟨t229, A100, H⟩ := H
   (try dsimp only at H)
   have A10 := aM A100; clear A100
   by_cases c11 : t229.size + 2 ≤ 9223372036854775807
   rotate_left
   ·rw [if_neg c11] at H
    exact absurd H (by simp)
   rw [if_pos c11] at H
   have c11b0 := eq_true c11
   have c11b1 : decide (t229.size + 2 ≤ 9223372036854775807) = true := decide_eq_true c11
   try have c11b2 : (9223372036854775807 < t229.size + 2) = False := eq_false (Nat.not_lt.2 c11)
   replace H := bI.mp H
   obtain ⟨t230, A120, H⟩ := H
   (try dsimp only at H)
   have A12 := aM A120; clear A120
   by_cases c13 : (t229 ++ (⟨#[44, 32]⟩ : ByteArray)).size + t230.size ≤ 9223372036854775807
   rotate_left
   ·rw [if_neg c13] at H
    exact absurd H (by simp)
   rw [if_pos c13] at H
   have c13b0 := eq_true c13
   have c13b1 : decide ((t229 ++ (⟨#[44, 32]⟩ : ByteArray)).size + t230.size ≤ 9223372036854775807) = true := decide_eq_true c13
   try have c13b2 : (9223372036854775807 < (t229 ++ (⟨#[44, 32]⟩ : ByteArray)).size + t230.size) = False := eq_false (Nat.not_lt.2 c13)
   (try (have c13n := c13; simp only [ByteArray.size_append, show (⟨#[44, 32]⟩ : ByteArray).size = 2 from rfl] at c13n))
   by_cases c14 : ((t229 ++ (⟨#[44, 32]⟩ : ByteArray)) ++ t230).size + 1 ≤ 9223372036854775807
   rotate_left
   ·rw [if_neg c14] at H
    exact absurd H (by simp)
   rw [if_pos c14] at H
   have c14b0 := eq_true c14
   have c14b1 : decide (((t229 ++ (⟨#[44, 32]⟩ : ByteArray)) ++ t230).size + 1 ≤ 9223372036854775807) = true := decide_eq_true c14
   try have c14b2 : (9223372036854775807 < ((t229 ++ (⟨#[44, 32]⟩ : ByteArray)) ++ t230).size + 1) = False := eq_false (Nat.not_lt.2 c14)
   (try (have c14n := c14; simp only [ByteArray.size_append, show (⟨#[44, 32]⟩ : ByteArray).size = 2 from rfl] at c14n))
   obtain ⟨ji15, hji15⟩ : ∃ j_ : Int, (wrap64 (a0_1 - 1)) = j_ := ⟨_, rfl⟩
   replace H : (if 0 ≤ (ji15) then (if (ji15) < 12 then (if (((t229 ++ (⟨#[44, 32]⟩ : ByteArray)) ++ t230) ++ (⟨#[32]⟩ : ByteArray)).size + (rdOf ByteArray.empty monL (ji15)).size ≤ 9223372036854775807 then (if ((((t229 ++ (⟨#[44, 32]⟩ : ByteArray)) ++ t230) ++ (⟨#[32]⟩ : ByteArray)) ++ (rdOf ByteArray.empty monL (ji15))).size + 1 ≤ 9223372036854775807 then ((impl_decimal.f kj3 a0_0 4).bind fun t232 => (if (((((t229 ++ (⟨#[44, 32]⟩ : ByteArray)) ++ t230) ++ (⟨#[32]⟩ : ByteArray)) ++ (rdOf ByteArray.empty monL (ji15))) ++ (⟨#[32]⟩ : ByteArray)).size + t232.size ≤ 9223372036854775807 then (if ((((((t229 ++ (⟨#[44, 32]⟩ : ByteArray)) ++ t230) ++ (⟨#[32]⟩ : ByteArray)) ++ (rdOf ByteArray.empty monL (ji15))) ++ (⟨#[32]⟩ : ByteArray)) ++ t232).size + 1 ≤ 9223372036854775807 then ((impl_decimal.f kj3 a0_3 2).bind fun t233 => (if (((((((t229 ++ (⟨#[44, 32]⟩ : ByteArray)) ++ t230) ++ (⟨#[32]⟩ : ByteArray)) ++ (rdOf ByteArray.empty monL (ji15))) ++ (⟨#[32]⟩ : ByteArray)) ++ t232) ++ (⟨#[32]⟩ : ByteArray)).size + t233.size ≤ 9223372036854775807 then (if ((((((((t229 ++ (⟨#[44, 32]⟩ : ByteArray)) ++ t230) ++ (⟨#[32]⟩ : ByteArray)) ++ (rdOf ByteArray.empty monL (ji15))) ++ (⟨#[32]⟩ : ByteArray)) ++ t232) ++ (⟨#[32]⟩ : ByteArray)) ++ t233).size + 1 ≤ 9223372036854775807 then ((impl_decimal.f kj3 a0_4 2).bind fun t234 => (if (((((((((t229 ++ (⟨#[44, 32]⟩ : ByteArray)) ++ t230) ++ (⟨#[32]⟩ : ByteArray)) ++ (rdOf ByteArray.empty monL (ji15))) ++ (⟨#[32]⟩ : ByteArray)) ++ t232) ++ (⟨#[32]⟩ : ByteArray)) ++ t233) ++ (⟨#[58]⟩ : ByteArray)).size + t234.size ≤ 9223372036854775807 then (if ((((((((((t229 ++ (⟨#[44, 32]⟩ : ByteArray)) ++ t230) ++ (⟨#[32]⟩ : ByteArray)) ++ (rdOf ByteArray.empty monL (ji15))) ++ (⟨#[32]⟩ : ByteArray)) ++ t232) ++ (⟨#[32]⟩ : ByteArray)) ++ t233) ++ (⟨#[58]⟩ : ByteArray)) ++ t234).size + 1 ≤ 9223372036854775807 then ((impl_decimal.f kj3 a0_5 2).bind fun t235 => (if (((((((((((t229 ++ (⟨#[44, 32]⟩ : ByteArray)) ++ t230) ++ (⟨#[32]⟩ : ByteArray)) ++ (rdOf ByteArray.empty monL (ji15))) ++ (⟨#[32]⟩ : ByteArray)) ++ t232) ++ (⟨#[32]⟩ : ByteArray)) ++ t233) ++ (⟨#[58]⟩ : ByteArray)) ++ t234) ++ (⟨#[58]⟩ : ByteArray)).size + t235.size ≤ 9223372036854775807 then (if ((((((((((((t229 ++ (⟨#[44, 32]⟩ : ByteArray)) ++ t230) ++ (⟨#[32]⟩ : ByteArray)) ++ (rdOf ByteArray.empty monL (ji15))) ++ (⟨#[32]⟩ : ByteArray)) ++ t232) ++ (⟨#[32]⟩ : ByteArray)) ++ t233) ++ (⟨#[58]⟩ : ByteArray)) ++ t234) ++ (⟨#[58]⟩ : ByteArray)) ++ t235).size + x3_3.size ≤ 9223372036854775807 then ((impl_decimal.f kj3 (wrap64 (Int.tdiv x4_3 60)) 2).bind fun t236 => (if (((((((((((((t229 ++ (⟨#[44, 32]⟩ : ByteArray)) ++ t230) ++ (⟨#[32]⟩ : ByteArray)) ++ (rdOf ByteArray.empty monL (ji15))) ++ (⟨#[32]⟩ : ByteArray)) ++ t232) ++ (⟨#[32]⟩ : ByteArray)) ++ t233) ++ (⟨#[58]⟩ : ByteArray)) ++ t234) ++ (⟨#[58]⟩ : ByteArray)) ++ t235) ++ x3_3).size + t236.size ≤ 9223372036854775807 then ((impl_decimal.f kj3 (Int.tmod x4_3 60) 2).bind fun t237 => (if ((((((((((((((t229 ++ (⟨#[44, 32]⟩ : ByteArray)) ++ t230) ++ (⟨#[32]⟩ : ByteArray)) ++ (rdOf ByteArray.empty monL (ji15))) ++ (⟨#[32]⟩ : ByteArray)) ++ t232) ++ (⟨#[32]⟩ : ByteArray)) ++ t233) ++ (⟨#[58]⟩ : ByteArray)) ++ t234) ++ (⟨#[58]⟩ : ByteArray)) ++ t235) ++ x3_3) ++ t236).size + t237.size ≤ 9223372036854775807 then (some (((((((((((((((t229 ++ (⟨#[44, 32]⟩ : ByteArray)) ++ t230) ++ (⟨#[32]⟩ : ByteArray)) ++ (rdOf ByteArray.empty monL (ji15))) ++ (⟨#[32]⟩ : ByteArray)) ++ t232) ++ (⟨#[32]⟩ : ByteArray)) ++ t233) ++ (⟨#[58]⟩ : ByteArray)) ++ t234) ++ (⟨#[58]⟩ : ByteArray)) ++ t235) ++ x3_3) ++ t236) ++ t237)) else (none))) else (none))) else (none)) else (none))) else (none)) else (none))) else (none)) else (none))) else (none)) else (none))) else (none)) else (none)) else (none)) else (none)) = some r := by first | (rw [hji15] at H; exact H) | (simp only [hji15] at H ⊢; exact H)
   (try rw [hji15] at A10)
   (try rw [hji15] at A12)
   have hji15w : (IntKind.i64.wrap (a0_1 - 1)) = ji15 := (i64_w _).trans hji15
   by_cases c16 : 0 ≤ (ji15)
   rotate_left
   ·rw [if_neg c16] at H
    exact absurd H (by simp)
   rw [if_pos c16] at H
   have c16b0 : decide (0 ≤ (ji15)) = true := decide_eq_true c16
   clear c16
   by_cases c17 : (ji15) < 12
   rotate_left
   ·rw [if_neg c17] at H
    exact absurd H (by simp)
   rw [if_pos c17] at H
   have c17b0 : decide ((ji15) < 12) = true := decide_eq_true c17
   clear c17
   by_cases c18 : (((t229 ++ (⟨#[44, 32]⟩ : ByteArray)) ++ t230) ++ (⟨#[32]⟩ : ByteArray)).size + (rdOf ByteArray.empty monL (ji15)).size ≤ 9223372036854775807
   rotate_left
   ·rw [if_neg c18] at H
    exact absurd H (by simp)
   rw [if_pos c18] at H
   have c18b0 := eq_true c18
   have c18b1 : decide ((((t229 ++ (⟨#[44, 32]⟩ : ByteArray)) ++ t230) ++ (⟨#[32]⟩ : ByteArray)).size + (rdOf ByteArray.empty monL (ji15)).size ≤ 9223372036854775807) = true := decide_eq_true c18
   try have c18b2 : (9223372036854775807 < (((t229 ++ (⟨#[44, 32]⟩ : ByteArray)) ++ t230) ++ (⟨#[32]⟩ : ByteArray)).size + (rdOf ByteArray.empty monL (ji15)).size) = False := eq_false (Nat.not_lt.2 c18)
   (try (have c18n := c18; simp only [ByteArray.size_append, show (⟨#[32]⟩ : ByteArray).size = 1 from rfl, show (⟨#[44, 32]⟩ : ByteArray).size = 2 from rfl] at c18n))
   by_cases c19 : ((((t229 ++ (⟨#[44, 32]⟩ : ByteArray)) ++ t230) ++ (⟨#[32]⟩ : ByteArray)) ++ (rdOf ByteArray.empty monL (ji15))).size + 1 ≤ 9223372036854775807
   rotate_left
   ·rw [if_neg c19] at H
    exact absurd H (by simp)
   rw [if_pos c19] at H
   have c19b0 := eq_true c19
   have c19b1 : decide (((((t229 ++ (⟨#[44, 32]⟩ : ByteArray)) ++ t230) ++ (⟨#[32]⟩ : ByteArray)) ++ (rdOf ByteArray.empty monL (ji15))).size + 1 ≤ 9223372036854775807) = true := decide_eq_true c19
   try have c19b2 : (9223372036854775807 < ((((t229 ++ (⟨#[44, 32]⟩ : ByteArray)) ++ t230) ++ (⟨#[32]⟩ : ByteArray)) ++ (rdOf ByteArray.empty monL (ji15))).size + 1) = False := eq_false (Nat.not_lt.2 c19)
   (try (have c19n := c19; simp only [ByteArray.size_append, show (⟨#[32]⟩ : ByteArray).size = 1 from rfl, show (⟨#[44, 32]⟩ : ByteArray).size = 2 from rfl] at c19n))
   replace H := bI.mp H
   obtain ⟨t232, A200, H⟩ := H
   (try dsimp only at H)
   have A20 := aM A200; clear A200
   by_cases c21 : (((((t229 ++ (⟨#[44, 32]⟩ : ByteArray)) ++ t230) ++ (⟨#[32]⟩ : ByteArray)) ++ (rdOf ByteArray.empty monL (ji15))) ++ (⟨#[32]⟩ : ByteArray)).size + t232.size ≤ 9223372036854775807
   rotate_left
   ·rw [if_neg c21] at H
    exact absurd H (by simp)
   rw [if_pos c21] at H
   have c21b0 := eq_true c21
   have c21b1 : decide ((((((t229 ++ (⟨#[44, 32]⟩ : ByteArray)) ++ t230) ++ (⟨#[32]⟩ : ByteArray)) ++ (rdOf ByteArray.empty monL (ji15))) ++ (⟨#[32]⟩ : ByteArray)).size + t232.size ≤ 9223372036854775807) = true := decide_eq_true c21
   try have c21b2 : (9223372036854775807 < (((((t229 ++ (⟨#[44, 32]⟩ : ByteArray)) ++ t230) ++ (⟨#[32]⟩ : ByteArray)) ++ (rdOf ByteArray.empty monL (ji15))) ++ (⟨#[32]⟩ : ByteArray)).size + t232.size) = False := eq_false (Nat.not_lt.2 c21)
   (try (have c21n := c21; simp only [ByteArray.size_append, show (⟨#[32]⟩ : ByteArray).size = 1 from rfl, show (⟨#[44, 32]⟩ : ByteArray).size = 2 from rfl] at c21n))
   by_cases c22 : ((((((t229 ++ (⟨#[44, 32]⟩ : ByteArray)) ++ t230) ++ (⟨#[32]⟩ : ByteArray)) ++ (rdOf ByteArray.empty monL (ji15))) ++ (⟨#[32]⟩ : ByteArray)) ++ t232).size + 1 ≤ 9223372036854775807
   rotate_left
   ·rw [if_neg c22] at H
    exact absurd H (by simp)
   rw [if_pos c22] at H
   have c22b0 := eq_true c22
   have c22b1 : decide (((((((t229 ++ (⟨#[44, 32]⟩ : ByteArray)) ++ t230) ++ (⟨#[32]⟩ : ByteArray)) ++ (rdOf ByteArray.empty monL (ji15))) ++ (⟨#[32]⟩ : ByteArray)) ++ t232).size + 1 ≤ 9223372036854775807) = true := decide_eq_true c22
   try have c22b2 : (9223372036854775807 < ((((((t229 ++ (⟨#[44, 32]⟩ : ByteArray)) ++ t230) ++ (⟨#[32]⟩ : ByteArray)) ++ (rdOf ByteArray.empty monL (ji15))) ++ (⟨#[32]⟩ : ByteArray)) ++ t232).size + 1) = False := eq_false (Nat.not_lt.2 c22)
   (try (have c22n := c22; simp only [ByteArray.size_append, show (⟨#[32]⟩ : ByteArray).size = 1 from rfl, show (⟨#[44, 32]⟩ : ByteArray).size = 2 from rfl] at c22n))
   replace H := bI.mp H
   obtain ⟨t233, A230, H⟩ := H
   (try dsimp only at H)
   have A23 := aM A230; clear A230
   by_cases c24 : (((((((t229 ++ (⟨#[44, 32]⟩ : ByteArray)) ++ t230) ++ (⟨#[32]⟩ : ByteArray)) ++ (rdOf ByteArray.empty monL (ji15))) ++ (⟨#[32]⟩ : ByteArray)) ++ t232) ++ (⟨#[32]⟩ : ByteArray)).size + t233.size ≤ 9223372036854775807
   rotate_left
   ·rw [if_neg c24] at H
    exact absurd H (by simp)
   rw [if_pos c24] at H
   have c24b0 := eq_true c24
   have c24b1 : decide ((((((((t229 ++ (⟨#[44, 32]⟩ : ByteArray)) ++ t230) ++ (⟨#[32]⟩ : ByteArray)) ++ (rdOf ByteArray.empty monL (ji15))) ++ (⟨#[32]⟩ : ByteArray)) ++ t232) ++ (⟨#[32]⟩ : ByteArray)).size + t233.size ≤ 9223372036854775807) = true := decide_eq_true c24
   try have c24b2 : (9223372036854775807 < (((((((t229 ++ (⟨#[44, 32]⟩ : ByteArray)) ++ t230) ++ (⟨#[32]⟩ : ByteArray)) ++ (rdOf ByteArray.empty monL (ji15))) ++ (⟨#[32]⟩ : ByteArray)) ++ t232) ++ (⟨#[32]⟩ : ByteArray)).size + t233.size) = False := eq_false (Nat.not_lt.2 c24)
   (try (have c24n := c24; simp only [ByteArray.size_append, show (⟨#[32]⟩ : ByteArray).size = 1 from rfl, show (⟨#[44, 32]⟩ : ByteArray).size = 2 from rfl] at c24n))
   by_cases c25 : ((((((((t229 ++ (⟨#[44, 32]⟩ : ByteArray)) ++ t230) ++ (⟨#[32]⟩ : ByteArray)) ++ (rdOf ByteArray.empty monL (ji15))) ++ (⟨#[32]⟩ : ByteArray)) ++ t232) ++ (⟨#[32]⟩ : ByteArray)) ++ t233).size + 1 ≤ 9223372036854775807
   rotate_left
   ·rw [if_neg c25] at H
    exact absurd H (by simp)
   rw [if_pos c25] at H
   have c25b0 := eq_true c25
   have c25b1 : decide (((((((((t229 ++ (⟨#[44, 32]⟩ : ByteArray)) ++ t230) ++ (⟨#[32]⟩ : ByteArray)) ++ (rdOf ByteArray.empty monL (ji15))) ++ (⟨#[32]⟩ : ByteArray)) ++ t232) ++ (⟨#[32]⟩ : ByteArray)) ++ t233).size + 1 ≤ 9223372036854775807) = true := decide_eq_true c25
   try have c25b2 : (9223372036854775807 < ((((((((t229 ++ (⟨#[44, 32]⟩ : ByteArray)) ++ t230) ++ (⟨#[32]⟩ : ByteArray)) ++ (rdOf ByteArray.empty monL (ji15))) ++ (⟨#[32]⟩ : ByteArray)) ++ t232) ++ (⟨#[32]⟩ : ByteArray)) ++ t233).size + 1) = False := eq_false (Nat.not_lt.2 c25)
   (try (have c25n := c25; simp only [ByteArray.size_append, show (⟨#[32]⟩ : ByteArray).size = 1 from rfl, show (⟨#[44, 32]⟩ : ByteArray).size = 2 from rfl] at c25n))
   replace H := bI.mp H
   obtain ⟨t234, A260, H⟩ := H
   (try dsimp only at H)
   have A26 := aM A260; clear A260
   by_cases c27 : (((((((((t229 ++ (⟨#[44, 32]⟩ : ByteArray)) ++ t230) ++ (⟨#[32]⟩ : ByteArray)) ++ (rdOf ByteArray.empty monL (ji15))) ++ (⟨#[32]⟩ : ByteArray)) ++ t232) ++ (⟨#[32]⟩ : ByteArray)) ++ t233) ++ (⟨#[58]⟩ : ByteArray)).size + t234.size ≤ 9223372036854775807
   rotate_left
   ·rw [if_neg c27] at H
    exact absurd H (by simp)
   rw [if_pos c27] at H
   have c27b0 := eq_true c27
   have c27b1 : decide ((((((((((t229 ++ (⟨#[44, 32]⟩ : ByteArray)) ++ t230) ++ (⟨#[32]⟩ : ByteArray)) ++ (rdOf ByteArray.empty monL (ji15))) ++ (⟨#[32]⟩ : ByteArray)) ++ t232) ++ (⟨#[32]⟩ : ByteArray)) ++ t233) ++ (⟨#[58]⟩ : ByteArray)).size + t234.size ≤ 9223372036854775807) = true := decide_eq_true c27
   try have c27b2 : (9223372036854775807 < (((((((((t229 ++ (⟨#[44, 32]⟩ : ByteArray)) ++ t230) ++ (⟨#[32]⟩ : ByteArray)) ++ (rdOf ByteArray.empty monL (ji15))) ++ (⟨#[32]⟩ : ByteArray)) ++ t232) ++ (⟨#[32]⟩ : ByteArray)) ++ t233) ++ (⟨#[58]⟩ : ByteArray)).size + t234.size) = False := eq_false (Nat.not_lt.2 c27)
   (try (have c27n := c27; simp only [ByteArray.size_append, show (⟨#[32]⟩ : ByteArray).size = 1 from rfl, show (⟨#[44, 32]⟩ : ByteArray).size = 2 from rfl, show (⟨#[58]⟩ : ByteArray).size = 1 from rfl] at c27n))
   by_cases c28 : ((((((((((t229 ++ (⟨#[44, 32]⟩ : ByteArray)) ++ t230) ++ (⟨#[32]⟩ : ByteArray)) ++ (rdOf ByteArray.empty monL (ji15))) ++ (⟨#[32]⟩ : ByteArray)) ++ t232) ++ (⟨#[32]⟩ : ByteArray)) ++ t233) ++ (⟨#[58]⟩ : ByteArray)) ++ t234).size + 1 ≤ 9223372036854775807
   rotate_left
   ·rw [if_neg c28] at H
    exact absurd H (by simp)
   rw [if_pos c28] at H
   have c28b0 := eq_true c28
   have c28b1 : decide (((((((((((t229 ++ (⟨#[44, 32]⟩ : ByteArray)) ++ t230) ++ (⟨#[32]⟩ : ByteArray)) ++ (rdOf ByteArray.empty monL (ji15))) ++ (⟨#[32]⟩ : ByteArray)) ++ t232) ++ (⟨#[32]⟩ : ByteArray)) ++ t233) ++ (⟨#[58]⟩ : ByteArray)) ++ t234).size + 1 ≤ 9223372036854775807) = true := decide_eq_true c28
   try have c28b2 : (9223372036854775807 < ((((((((((t229 ++ (⟨#[44, 32]⟩ : ByteArray)) ++ t230) ++ (⟨#[32]⟩ : ByteArray)) ++ (rdOf ByteArray.empty monL (ji15))) ++ (⟨#[32]⟩ : ByteArray)) ++ t232) ++ (⟨#[32]⟩ : ByteArray)) ++ t233) ++ (⟨#[58]⟩ : ByteArray)) ++ t234).size + 1) = False := eq_false (Nat.not_lt.2 c28)
   (try (have c28n := c28; simp only [ByteArray.size_append, show (⟨#[32]⟩ : ByteArray).size = 1 from rfl, show (⟨#[44, 32]⟩ : ByteArray).size = 2 from rfl, show (⟨#[58]⟩ : ByteArray).size = 1 from rfl] at c28n))
   replace H := bI.mp H
   obtain ⟨t235, A290, H⟩ := H
   (try dsimp only at H)
   have A29 := aM A290; clear A290
   by_cases c30 : (((((((((((t229 ++ (⟨#[44, 32]⟩ : ByteArray)) ++ t230) ++ (⟨#[32]⟩ : ByteArray)) ++ (rdOf ByteArray.empty monL (ji15))) ++ (⟨#[32]⟩ : ByteArray)) ++ t232) ++ (⟨#[32]⟩ : ByteArray)) ++ t233) ++ (⟨#[58]⟩ : ByteArray)) ++ t234) ++ (⟨#[58]⟩ : ByteArray)).size + t235.size ≤ 9223372036854775807
   rotate_left
   ·rw [if_neg c30] at H
    exact absurd H (by simp)
   rw [if_pos c30] at H
   have c30b0 := eq_true c30
   have c30b1 : decide ((((((((((((t229 ++ (⟨#[44, 32]⟩ : ByteArray)) ++ t230) ++ (⟨#[32]⟩ : ByteArray)) ++ (rdOf ByteArray.empty monL (ji15))) ++ (⟨#[32]⟩ : ByteArray)) ++ t232) ++ (⟨#[32]⟩ : ByteArray)) ++ t233) ++ (⟨#[58]⟩ : ByteArray)) ++ t234) ++ (⟨#[58]⟩ : ByteArray)).size + t235.size ≤ 9223372036854775807) = true := decide_eq_true c30
   try have c30b2 : (9223372036854775807 < (((((((((((t229 ++ (⟨#[44, 32]⟩ : ByteArray)) ++ t230) ++ (⟨#[32]⟩ : ByteArray)) ++ (rdOf ByteArray.empty monL (ji15))) ++ (⟨#[32]⟩ : ByteArray)) ++ t232) ++ (⟨#[32]⟩ : ByteArray)) ++ t233) ++ (⟨#[58]⟩ : ByteArray)) ++ t234) ++ (⟨#[58]⟩ : ByteArray)).size + t235.size) = False := eq_false (Nat.not_lt.2 c30)
   (try (have c30n := c30; simp only [ByteArray.size_append, show (⟨#[32]⟩ : ByteArray).size = 1 from rfl, show (⟨#[44, 32]⟩ : ByteArray).size = 2 from rfl, show (⟨#[58]⟩ : ByteArray).size = 1 from rfl] at c30n))
   by_cases c31 : ((((((((((((t229 ++ (⟨#[44, 32]⟩ : ByteArray)) ++ t230) ++ (⟨#[32]⟩ : ByteArray)) ++ (rdOf ByteArray.empty monL (ji15))) ++ (⟨#[32]⟩ : ByteArray)) ++ t232) ++ (⟨#[32]⟩ : ByteArray)) ++ t233) ++ (⟨#[58]⟩ : ByteArray)) ++ t234) ++ (⟨#[58]⟩ : ByteArray)) ++ t235).size + x3_3.size ≤ 9223372036854775807
   rotate_left
   ·rw [if_neg c31] at H
    exact absurd H (by simp)
   rw [if_pos c31] at H
   have c31b0 := eq_true c31
   have c31b1 : decide (((((((((((((t229 ++ (⟨#[44, 32]⟩ : ByteArray)) ++ t230) ++ (⟨#[32]⟩ : ByteArray)) ++ (rdOf ByteArray.empty monL (ji15))) ++ (⟨#[32]⟩ : ByteArray)) ++ t232) ++ (⟨#[32]⟩ : ByteArray)) ++ t233) ++ (⟨#[58]⟩ : ByteArray)) ++ t234) ++ (⟨#[58]⟩ : ByteArray)) ++ t235).size + x3_3.size ≤ 9223372036854775807) = true := decide_eq_true c31
   try have c31b2 : (9223372036854775807 < ((((((((((((t229 ++ (⟨#[44, 32]⟩ : ByteArray)) ++ t230) ++ (⟨#[32]⟩ : ByteArray)) ++ (rdOf ByteArray.empty monL (ji15))) ++ (⟨#[32]⟩ : ByteArray)) ++ t232) ++ (⟨#[32]⟩ : ByteArray)) ++ t233) ++ (⟨#[58]⟩ : ByteArray)) ++ t234) ++ (⟨#[58]⟩ : ByteArray)) ++ t235).size + x3_3.size) = False := eq_false (Nat.not_lt.2 c31)
   (try (have c31n := c31; simp only [ByteArray.size_append, show (⟨#[32]⟩ : ByteArray).size = 1 from rfl, show (⟨#[44, 32]⟩ : ByteArray).size = 2 from rfl, show (⟨#[58]⟩ : ByteArray).size = 1 from rfl] at c31n))
   replace H := bI.mp H
   obtain ⟨t236, A320, H⟩ := H
   (try dsimp only at H)
   have A32 := aM A320; clear A320
   by_cases c33 : (((((((((((((t229 ++ (⟨#[44, 32]⟩ : ByteArray)) ++ t230) ++ (⟨#[32]⟩ : ByteArray)) ++ (rdOf ByteArray.empty monL (ji15))) ++ (⟨#[32]⟩ : ByteArray)) ++ t232) ++ (⟨#[32]⟩ : ByteArray)) ++ t233) ++ (⟨#[58]⟩ : ByteArray)) ++ t234) ++ (⟨#[58]⟩ : ByteArray)) ++ t235) ++ x3_3).size + t236.size ≤ 9223372036854775807
   rotate_left
   ·rw [if_neg c33] at H
    exact absurd H (by simp)
   rw [if_pos c33] at H
   have c33b0 := eq_true c33
   have c33b1 : decide ((((((((((((((t229 ++ (⟨#[44, 32]⟩ : ByteArray)) ++ t230) ++ (⟨#[32]⟩ : ByteArray)) ++ (rdOf ByteArray.empty monL (ji15))) ++ (⟨#[32]⟩ : ByteArray)) ++ t232) ++ (⟨#[32]⟩ : ByteArray)) ++ t233) ++ (⟨#[58]⟩ : ByteArray)) ++ t234) ++ (⟨#[58]⟩ : ByteArray)) ++ t235) ++ x3_3).size + t236.size ≤ 9223372036854775807) = true := decide_eq_true c33
   try have c33b2 : (9223372036854775807 < (((((((((((((t229 ++ (⟨#[44, 32]⟩ : ByteArray)) ++ t230) ++ (⟨#[32]⟩ : ByteArray)) ++ (rdOf ByteArray.empty monL (ji15))) ++ (⟨#[32]⟩ : ByteArray)) ++ t232) ++ (⟨#[32]⟩ : ByteArray)) ++ t233) ++ (⟨#[58]⟩ : ByteArray)) ++ t234) ++ (⟨#[58]⟩ : ByteArray)) ++ t235) ++ x3_3).size + t236.size) = False := eq_false (Nat.not_lt.2 c33)
   (try (have c33n := c33; simp only [ByteArray.size_append, show (⟨#[32]⟩ : ByteArray).size = 1 from rfl, show (⟨#[44, 32]⟩ : ByteArray).size = 2 from rfl, show (⟨#[58]⟩ : ByteArray).size = 1 from rfl] at c33n))
   replace H := bI.mp H
   obtain ⟨t237, A340, H⟩ := H
   (try dsimp only at H)
   have A34 := aM A340; clear A340
   by_cases c35 : ((((((((((((((t229 ++ (⟨#[44, 32]⟩ : ByteArray)) ++ t230) ++ (⟨#[32]⟩ : ByteArray)) ++ (rdOf ByteArray.empty monL (ji15))) ++ (⟨#[32]⟩ : ByteArray)) ++ t232) ++ (⟨#[32]⟩ : ByteArray)) ++ t233) ++ (⟨#[58]⟩ : ByteArray)) ++ t234) ++ (⟨#[58]⟩ : ByteArray)) ++ t235) ++ x3_3) ++ t236).size + t237.size ≤ 9223372036854775807
   rotate_left
   ·rw [if_neg c35] at H
    exact absurd H (by simp)
   rw [if_pos c35] at H
   have c35b0 := eq_true c35
   have c35b1 : decide (((((((((((((((t229 ++ (⟨#[44, 32]⟩ : ByteArray)) ++ t230) ++ (⟨#[32]⟩ : ByteArray)) ++ (rdOf ByteArray.empty monL (ji15))) ++ (⟨#[32]⟩ : ByteArray)) ++ t232) ++ (⟨#[32]⟩ : ByteArray)) ++ t233) ++ (⟨#[58]⟩ : ByteArray)) ++ t234) ++ (⟨#[58]⟩ : ByteArray)) ++ t235) ++ x3_3) ++ t236).size + t237.size ≤ 9223372036854775807) = true := decide_eq_true c35
   try have c35b2 : (9223372036854775807 < ((((((((((((((t229 ++ (⟨#[44, 32]⟩ : ByteArray)) ++ t230) ++ (⟨#[32]⟩ : ByteArray)) ++ (rdOf ByteArray.empty monL (ji15))) ++ (⟨#[32]⟩ : ByteArray)) ++ t232) ++ (⟨#[32]⟩ : ByteArray)) ++ t233) ++ (⟨#[58]⟩ : ByteArray)) ++ t234) ++ (⟨#[58]⟩ : ByteArray)) ++ t235) ++ x3_3) ++ t236).size + t237.size) = False := eq_false (Nat.not_lt.2 c35)
   (try (have c35n := c35; simp only [ByteArray.size_append, show (⟨#[32]⟩ : ByteArray).size = 1 from rfl, show (⟨#[44, 32]⟩ : ByteArray).size = 2 from rfl, show (⟨#[58]⟩ : ByteArray).size = 1 from rfl] at c35n))
   obtain rfl := Option.some.inj H
   try go_wp2
   have n0_ := aM (Bh BK227.out); have n1_ := aM (Bd HB.out); clear BK227; clear HB; have BK227 := n0_; have HB := n1_; clear n0_ n1_
   have p231 : 0 ≤ ((ji15) : Int) := of_decide_eq_true (by first | (with_reducible assumption) | assumption)
   have q231 : (ji15) < (monL.length : Int) := of_decide_eq_true (by first | (with_reducible assumption) | assumption)
   have ql231 : (((ji15) : Int) < (12 : Int)) = True := eq_true (of_decide_eq_true (by first | (with_reducible assumption) | assumption))
   obtain ⟨ad231, e231, hx231_0⟩ := Kd.at_string HRg0.out (ji15) p231 q231
   have hw231_0 := hx231_0
   obtain rfl : (⟨0, 0, none⟩ : Addr) = ad231 := (by injection e231)
   (first | simp only [add_plain] at hx231_0 | simp only [add_at] at hx231_0 | simp only [Addr.add, Nat.zero_add] at hx231_0 | skip)
   (first | simp only [add_plain] at hw231_0 | simp only [add_at] at hw231_0 | simp only [Addr.add, Nat.zero_add] at hw231_0 | skip)
   replace hx231_0 := (HB.out.cell (World.block_lt_of_cell? w _ hx231_0)).trans hx231_0; replace p231 := eq_true p231; replace q231 := eq_true q231
   refine start_ (n := 45) (S := fun w' => w'.cell? ⟨gb227, 0, none⟩ = some (.int .i64 a0_0) ∧ w'.cell? ⟨gb227, 1, none⟩ = some (.int .i64 a0_1) ∧ w'.cell? ⟨gb227, 2, none⟩ = some (.int .i64 a0_2) ∧ w'.cell? ⟨gb227, 3, none⟩ = some (.int .i64 a0_3) ∧ w'.cell? ⟨gb227, 4, none⟩ = some (.int .i64 a0_4) ∧ w'.cell? ⟨gb227, 5, none⟩ = some (.int .i64 a0_5) ∧ w'.cell? ⟨gb227, 6, none⟩ = some (.int .i64 a0_6) ∧ w'.cell? ⟨0, ((ji15)).toNat, none⟩ = some (.string (rdOf ByteArray.empty monL (ji15)))) (ds := []) #[X,X,X,X,X,X,X,X,X,X,X,X,X,X,X,X,X,X,X,X,X,X,X,X,X,X,X,X,X,X,X,X,X,X,X,X,X,X,X,X,X,X,X,X,X] (by kernel_rfl) rfl rfl ⟨(Ba BK227.out 0).trans rfl, (Ba BK227.out 1).trans rfl, (Ba BK227.out 2).trans rfl, (Ba BK227.out 3).trans rfl, (Ba BK227.out 4).trans rfl, (Ba BK227.out 5).trans rfl, (Ba BK227.out 6).trans rfl, ((HB.out.cell (World.block_lt_of_cell? w _ hw231_0)).trans hw231_0)⟩ (fun hHeld => ?_); refine with_tabW impl_FormatDate.tab6 impl_FormatDate.bits6 (fun HT_ HW_ => ?_)
   generalize wc.drew = w36 at BK227 HB hx231_0 hHeld ⊢
   refine pure_ (i := 3) (N := some 17) (v := ?_) (a' := ?_) (mb 45 8) rfl rfl (any_of HT_.out (by kernel_rfl)) (fun _ _ _ h => h) (Or.inl ⟨by rfl, ?_⟩) ?_ ?_
   rotate_left; (·intro w'; go_simp; (first | with_reducible rfl | (refine if_neg ?_; omega))); rotate_left; (·simp only [Act.put, sA, sZ, sS, i64_w, i32_w]; rfl)
   refine pure_ (i := 8) (N := some 22) (v := ?_) (a' := ?_) (mb 45 264) rfl rfl (any_of HT_.out (by kernel_rfl)) (fun _ _ _ h => h) (Or.inl ⟨by rfl, ?_⟩) ?_ ?_
   rotate_left; (·intro w'; go_simp; (first | with_reducible rfl | (refine if_neg ?_; omega))); rotate_left; (·simp only [Act.put, sA, sZ, sS, i64_w, i32_w]; rfl)
   refine pure_ (i := 15) (N := some 29) (v := ?_) (a' := ?_) (mb 45 33032) rfl rfl (any_of HT_.out (by kernel_rfl)) (fun _ _ _ h => h) (Or.inl ⟨by rfl, ?_⟩) ?_ ?_
   rotate_left; (·intro w'; go_simp; (first | with_reducible rfl | (refine if_neg ?_; omega))); rotate_left; (·simp only [Act.put, sA, sZ, sS, i64_w, i32_w]; rfl)
   refine pure_ (i := 20) (N := some 34) (v := ?_) (a' := ?_) (mb 45 1081608) rfl rfl (any_of HT_.out (by kernel_rfl)) (fun _ _ _ h => h) (Or.inl ⟨by rfl, ?_⟩) ?_ ?_
   rotate_left; (·intro w'; go_simp; (first | with_reducible rfl | (refine if_neg ?_; omega))); rotate_left; (·simp only [Act.put, sA, sZ, sS, i64_w, i32_w]; rfl)
   refine pure_ (i := 25) (N := some 39) (v := ?_) (a' := ?_) (mb 45 34636040) rfl rfl (any_of HT_.out (by kernel_rfl)) (fun _ _ _ h => h) (Or.inl ⟨by rfl, ?_⟩) ?_ ?_
   rotate_left; (·intro w'; go_simp; (first | with_reducible rfl | (refine if_neg ?_; omega))); rotate_left; (·simp only [Act.put, sA, sZ, sS, i64_w, i32_w]; rfl)
   refine pure_ (i := 30) (N := some 44) (v := ?_) (a' := ?_) (mb 45 1108377864) rfl rfl (any_of HT_.out (by kernel_rfl)) (fun _ _ _ h => h) (Or.inl ⟨by rfl, ?_⟩) ?_ ?_
   rotate_left; (·intro w'; go_simp; (first | with_reducible rfl | (refine if_neg ?_; omega))); rotate_left; (·simp only [Act.put, sA, sZ, sS, i64_w, i32_w]; rfl)
   refine pure_ (i := 34) (N := some 48) (v := ?_) (a' := ?_) (mb 45 18288247048) rfl rfl (any_of HT_.out (by kernel_rfl)) (fun _ _ _ h => h) (Or.inl ⟨by rfl, ?_⟩) ?_ ?_
   rotate_left; (·intro w'; go_simp; (first | with_reducible rfl | (refine if_neg ?_; omega))); rotate_left; (·simp only [Act.put, sA, sZ, sS, i64_w, i32_w]; rfl)
   refine pure_ (i := 36) (N := some 50) (v := ?_) (a' := ?_) (mb 45 87007723784) rfl rfl (any_of HT_.out (by kernel_rfl)) (fun _ _ _ h => h) (Or.inl ⟨by rfl, ?_⟩) ?_ ?_
   rotate_left; (·intro w'; go_simp; (first | with_reducible rfl | (refine if_neg ?_; omega))); rotate_left; (·simp only [Act.put, sA, sZ, sS, i64_w, i32_w]; rfl)
   refine pure_ (i := 37) (N := some 51) (v := ?_) (a' := ?_) (mb 45 224446677256) rfl rfl (any_of HT_.out (by kernel_rfl)) (fun _ _ _ h => h) (Or.inl ⟨by rfl, ?_⟩) ?_ ?_
   rotate_left; (·intro w'; go_simp; (first | with_reducible rfl | (refine if_neg ?_; omega))); rotate_left; (·simp only [Act.put, sA, sZ, sS, i64_w, i32_w]; rfl)
   refine pure_ (i := 40) (N := some 54) (v := ?_) (a' := ?_) (mb 45 1323958305032) rfl rfl (any_of HT_.out (by kernel_rfl)) (fun _ _ _ h => h) (Or.inl ⟨by rfl, ?_⟩) ?_ ?_
   rotate_left; (·intro w'; go_simp; (first | with_reducible rfl | (refine if_neg ?_; omega))); rotate_left; (·simp only [Act.put, sA, sZ, sS, i64_w, i32_w]; rfl)
   refine pure_ (i := 41) (N := some 55) (v := ?_) (a' := ?_) (mb 45 3522981560584) rfl rfl (any_of HT_.out (by kernel_rfl)) (fun _ _ _ h => h) (Or.inl ⟨by rfl, ?_⟩) ?_ ?_
   rotate_left; (·intro w'; go_simp; (first | with_reducible rfl | (refine if_neg ?_; omega))); rotate_left; (·simp only [Act.put, sA, sZ, sS, i64_w, i32_w]; rfl)
   refine take_ (i := 0) (N := some 14) (v := ?_) (a' := ?_) (mb 45 3522981560585) rfl rfl (take_ofW HT_.out HW_.out (by kernel_rfl)) (fun _ _ _ h => h) (Or.inl ⟨by rfl, ?_⟩) hHeld ?_ ?_
   rotate_left; (·rintro w' ⟨s0, s1, s2, s3, s4, s5, s6, s7⟩; go_simp; (first | with_reducible rfl | (refine if_neg ?_; omega))); rotate_left; (·simp only [Act.put, sA, sZ, sS, i64_w, i32_w]; rfl)
   refine take_ (i := 4) (N := some 18) (v := ?_) (a' := ?_) (mb 45 3522981560601) rfl rfl (take_ofW HT_.out HW_.out (by kernel_rfl)) (fun _ _ _ h => h) (Or.inl ⟨by rfl, ?_⟩) hHeld ?_ ?_
   rotate_left; (·rintro w' ⟨s0, s1, s2, s3, s4, s5, s6, s7⟩; go_simp; (first | with_reducible rfl | (refine if_neg ?_; omega))); rotate_left; (·simp only [Act.put, sA, sZ, sS, i64_w, i32_w]; rfl)
   refine take_ (i := 9) (N := some 23) (v := ?_) (a' := ?_) (mb 45 3522981561113) rfl rfl (take_ofW HT_.out HW_.out (by kernel_rfl)) (fun _ _ _ h => h) (Or.inl ⟨by rfl, ?_⟩) hHeld ?_ ?_
   rotate_left; (·rintro w' ⟨s0, s1, s2, s3, s4, s5, s6, s7⟩; go_simp; (first | with_reducible rfl | (refine if_neg ?_; omega))); rotate_left; (·simp only [Act.put, sA, sZ, sS, i64_w, i32_w]; rfl)
   refine pure_ (i := 10) (N := some 24) (v := ?_) (a' := ?_) (mb 45 3522981562137) rfl rfl (any_of HT_.out (by kernel_rfl)) (fun _ _ _ h => h) (Or.inl ⟨by rfl, ?_⟩) ?_ ?_
   rotate_left; (·intro w'; go_simp; (first | with_reducible rfl | (refine if_neg ?_; omega))); rotate_left; (·simp only [Act.put, sA, sZ, sS, i64_w, i32_w]; rfl)
   refine pure_ (i := 11) (N := some 25) (v := ?_) (a' := ?_) (mb 45 3522981564185) rfl rfl (any_of HT_.out (by kernel_rfl)) (fun _ _ _ h => h) (Or.inl ⟨by rfl, ?_⟩) ?_ ?_
   rotate_left; (·intro w'; go_simp; (first | with_reducible rfl | (refine if_neg ?_; omega))); rotate_left; (·simp only [Act.put, sA, sZ, sS, i64_w, i32_w]; rfl)
   refine take_ (i := 12) (N := some 26) (v := ?_) (a' := ?_) (mb 45 3522981568281) rfl rfl (take_ofW HT_.out HW_.out (by kernel_rfl)) (fun _ _ _ h => h) (Or.inl ⟨by rfl, ?_⟩) hHeld ?_ ?_
   rotate_left; (·rintro w' ⟨s0, s1, s2, s3, s4, s5, s6, s7⟩; go_simp; (first | with_reducible rfl | (refine if_neg ?_; omega))); rotate_left; (·simp only [Act.put, sA, sZ, sS, i64_w, i32_w]; rfl)
   refine take_ (i := 16) (N := some 30) (v := ?_) (a' := ?_) (mb 45 3522981633817) rfl rfl (take_ofW HT_.out HW_.out (by kernel_rfl)) (fun _ _ _ h => h) (Or.inl ⟨by rfl, ?_⟩) hHeld ?_ ?_
   rotate_left; (·rintro w' ⟨s0, s1, s2, s3, s4, s5, s6, s7⟩; go_simp; (first | with_reducible rfl | (refine if_neg ?_; omega))); rotate_left; (·simp only [Act.put, sA, sZ, sS, i64_w, i32_w]; rfl)
   refine take_ (i := 21) (N := some 35) (v := ?_) (a' := ?_) (mb 45 3522983730969) rfl rfl (take_ofW HT_.out HW_.out (by kernel_rfl)) (fun _ _ _ h => h) (Or.inl ⟨by rfl, ?_⟩) hHeld ?_ ?_
   rotate_left; (·rintro w' ⟨s0, s1, s2, s3, s4, s5, s6, s7⟩; go_simp; (first | with_reducible rfl | (refine if_neg ?_; omega))); rotate_left; (·simp only [Act.put, sA, sZ, sS, i64_w, i32_w]; rfl)
   refine take_ (i := 26) (N := some 40) (v := ?_) (a' := ?_) (mb 45 3523050839833) rfl rfl (take_ofW HT_.out HW_.out (by kernel_rfl)) (fun _ _ _ h => h) (Or.inl ⟨by rfl, ?_⟩) hHeld ?_ ?_
   rotate_left; (·rintro w' ⟨s0, s1, s2, s3, s4, s5, s6, s7⟩; go_simp; (first | with_reducible rfl | (refine if_neg ?_; omega))); rotate_left; (·simp only [Act.put, sA, sZ, sS, i64_w, i32_w]; rfl)
   refine take_ (i := 31) (N := some 45) (v := ?_) (a' := ?_) (mb 45 3525198323481) rfl rfl (take_ofW HT_.out HW_.out (by kernel_rfl)) (fun _ _ _ h => h) (Or.inl ⟨by rfl, ?_⟩) hHeld ?_ ?_
   rotate_left; (·rintro w' ⟨s0, s1, s2, s3, s4, s5, s6, s7⟩; go_simp; (first | with_reducible rfl | (refine if_neg ?_; omega))); rotate_left; (·simp only [Act.put, sA, sZ, sS, i64_w, i32_w]; rfl)
   refine one_ (i := 1) (N := some 15) (mb 45 3525198323483) rfl rfl (one_of HT_.out (by kernel_rfl)) (by decide) (fun K hK => ?_)
   refine goes_ Tryd.func14 (by kernel_rfl) rfl #[.agg #[.int .i64 a0_0, .int .i64 a0_1, .int .i64 a0_2, .int .i64 a0_3, .int .i64 a0_4, .int .i64 a0_5, .int .i64 a0_6]] (by rfl) rfl rfl (by (try simp only [mT, mC, mN]) <;> rfl) ?_
   with_reducible refine (impl_WeekdayOf.calls kj3 a0_0 a0_1 a0_2 a0_3 a0_4 a0_5 a0_6 t229 _ A10.out).mono ?_
   rintro e w37 ⟨rfl, hb⟩
   refine ⟨_, rfl, ?_⟩
   have n0_ := aM (blk_below (by (with_reducible repeat (first | refine Bf ?_ _ | refine Bh ?_ | refine Bg ?_ _)); exact BK227.out) hb); have n1_ := aM (below_step (by repeat (with_reducible first | exact HB.out | apply Be | apply Bc | apply Bd | refine Bs ?_ GE227.out)) hb); clear BK227; clear HB; have BK227 := n0_; have HB := n1_; clear n0_ n1_
   (try clear hb)
   (try clear hb2)
   (try clear hk)
   (try clear hi)
   refine hK.out _ _ ⟨(Ba BK227.out 0).trans rfl, (Ba BK227.out 1).trans rfl, (Ba BK227.out 2).trans rfl, (Ba BK227.out 3).trans rfl, (Ba BK227.out 4).trans rfl, (Ba BK227.out 5).trans rfl, (Ba BK227.out 6).trans rfl, ((HB.out.cell (World.block_lt_of_cell? w _ hw231_0)).trans hw231_0)⟩ (fun hHeld => ?_)
   clear hK K
   refine norm_ (a' := ?_) ?_ ?_
   rotate_left
   ·show Act.put _ (some 15) _ = _
    simp only [Act.put, sA, sZ, sS, i64_w, i32_w]
    rfl
   refine pure_ (i := 2) (N := some 16) (v := ?_) (a' := ?_) (mb 45 3525198323487) rfl rfl (any_of HT_.out (by kernel_rfl)) (fun _ _ _ h => h) (Or.inl ⟨by rfl, ?_⟩) ?_ ?_
   rotate_left; (·intro w'; go_simp; (first | with_reducible rfl | (refine if_neg ?_; omega))); rotate_left; (·simp only [Act.put, sA, sZ, sS, i64_w, i32_w]; rfl)
   refine one_ (i := 5) (N := some 19) (mb 45 3525198323519) rfl rfl (one_of HT_.out (by kernel_rfl)) (by decide) (fun K hK => ?_)
   refine goes_ Tryd.func22 (by kernel_rfl) rfl #[.int .i64 a0_2, .int .i64 1] (by rfl) rfl rfl (by (try simp only [mT, mC, mN]) <;> rfl) ?_
   with_reducible refine (impl_decimal.calls kj3 a0_2 1 t230 _ A12.out).mono ?_
   rintro e w' ⟨rfl, ⟨nd, rfl⟩⟩
   refine ⟨_, rfl, ?_⟩
   refine hK.out _ _ ⟨(Ba BK227.out 0).trans rfl, (Ba BK227.out 1).trans rfl, (Ba BK227.out 2).trans rfl, (Ba BK227.out 3).trans rfl, (Ba BK227.out 4).trans rfl, (Ba BK227.out 5).trans rfl, (Ba BK227.out 6).trans rfl, ((HB.out.cell (World.block_lt_of_cell? w _ hw231_0)).trans hw231_0)⟩ (fun hHeld => ?_)
   clear hK K
   refine norm_ (a' := ?_) ?_ ?_
   rotate_left
   ·show Act.put _ (some 19) _ = _
    simp only [Act.put, sA, sZ, sS, i64_w, i32_w]
    rfl
   refine pure_ (i := 6) (N := some 20) (v := ?_) (a' := ?_) (mb 45 3525198323583) rfl rfl (any_of HT_.out (by kernel_rfl)) (fun _ _ _ h => h) (Or.inl ⟨by rfl, ?_⟩) ?_ ?_
   rotate_left; (·intro w'; go_simp; (first | with_reducible rfl | (refine if_neg ?_; omega))); rotate_left; (·simp only [Act.put, sA, sZ, sS, i64_w, i32_w]; rfl)
   refine pure_ (i := 7) (N := some 21) (v := ?_) (a' := ?_) (mb 45 3525198323711) rfl rfl (any_of HT_.out (by kernel_rfl)) (fun _ _ _ h => h) (Or.inl ⟨by rfl, ?_⟩) ?_ ?_
   rotate_left; (·intro w'; go_simp; (first | with_reducible rfl | (refine if_neg ?_; omega))); rotate_left; (·simp only [Act.put, sA, sZ, sS, i64_w, i32_w]; rfl)
   refine pure_ (i := 13) (N := some 27) (v := ?_) (a' := ?_) (mb 45 3525198331903) rfl rfl (any_of HT_.out (by kernel_rfl)) (fun _ _ _ h => h) (Or.inl ⟨by rfl, ?_⟩) ?_ ?_
   rotate_left; (·intro w'; go_simp; (first | with_reducible rfl | (refine if_neg ?_; omega))); rotate_left; (·simp only [Act.put, sA, sZ, sS, i64_w, i32_w]; rfl)
   refine pure_ (i := 14) (N := some 28) (v := ?_) (a' := ?_) (mb 45 3525198348287) rfl rfl (any_of HT_.out (by kernel_rfl)) (fun _ _ _ h => h) (Or.inl ⟨by rfl, ?_⟩) ?_ ?_
   rotate_left; (·intro w'; go_simp; (first | with_reducible rfl | (refine if_neg ?_; omega))); rotate_left; (·simp only [Act.put, sA, sZ, sS, i64_w, i32_w]; rfl)
   refine one_ (i := 17) (N := some 31) (mb 45 3525198479359) rfl rfl (one_of HT_.out (by kernel_rfl)) (by decide) (fun K hK => ?_)
   refine goes_ Tryd.func22 (by kernel_rfl) rfl #[.int .i64 a0_0, .int .i64 4] (by rfl) rfl rfl (by (try simp only [mT, mC, mN]) <;> rfl) ?_
   with_reducible refine (impl_decimal.calls kj3 a0_0 4 t232 _ A20.out).mono ?_
   rintro e w' ⟨rfl, ⟨nd, rfl⟩⟩
   refine ⟨_, rfl, ?_⟩
   refine hK.out _ _ ⟨(Ba BK227.out 0).trans rfl, (Ba BK227.out 1).trans rfl, (Ba BK227.out 2).trans rfl, (Ba BK227.out 3).trans rfl, (Ba BK227.out 4).trans rfl, (Ba BK227.out 5).trans rfl, (Ba BK227.out 6).trans rfl, ((HB.out.cell (World.block_lt_of_cell? w _ hw231_0)).trans hw231_0)⟩ (fun hHeld => ?_)
   clear hK K
   refine norm_ (a' := ?_) ?_ ?_
   rotate_left
   ·show Act.put _ (some 31) _ = _
    simp only [Act.put, sA, sZ, sS, i64_w, i32_w]
    rfl
   refine pure_ (i := 18) (N := some 32) (v := ?_) (a' := ?_) (mb 45 3525198741503) rfl rfl (any_of HT_.out (by kernel_rfl)) (fun _ _ _ h => h) (Or.inl ⟨by rfl, ?_⟩) ?_ ?_
   rotate_left; (·intro w'; go_simp; (first | with_reducible rfl | (refine if_neg ?_; omega))); rotate_left; (·simp only [Act.put, sA, sZ, sS, i64_w, i32_w]; rfl)
   refine pure_ (i := 19) (N := some 33) (v := ?_) (a' := ?_) (mb 45 3525199265791) rfl rfl (any_of HT_.out (by kernel_rfl)) (fun _ _ _ h => h) (Or.inl ⟨by rfl, ?_⟩) ?_ ?_
   rotate_left; (·intro w'; go_simp; (first | with_reducible rfl | (refine if_neg ?_; omega))); rotate_left; (·simp only [Act.put, sA, sZ, sS, i64_w, i32_w]; rfl)
   refine one_ (i := 22) (N := some 36) (mb 45 3525203460095) rfl rfl (one_of HT_.out (by kernel_rfl)) (by decide) (fun K hK => ?_)
   refine goes_ Tryd.func22 (by kernel_rfl) rfl #[.int .i64 a0_3, .int .i64 2] (by rfl) rfl rfl (by (try simp only [mT, mC, mN]) <;> rfl) ?_
   with_reducible refine (impl_decimal.calls kj3 a0_3 2 t233 _ A23.out).mono ?_
   rintro e w' ⟨rfl, ⟨nd, rfl⟩⟩
   refine ⟨_, rfl, ?_⟩
   refine hK.out _ _ ⟨(Ba BK227.out 0).trans rfl, (Ba BK227.out 1).trans rfl, (Ba BK227.out 2).trans rfl, (Ba BK227.out 3).trans rfl, (Ba BK227.out 4).trans rfl, (Ba BK227.out 5).trans rfl, (Ba BK227.out 6).trans rfl, ((HB.out.cell (World.block_lt_of_cell? w _ hw231_0)).trans hw231_0)⟩ (fun hHeld => ?_)
   clear hK K
   refine norm_ (a' := ?_) ?_ ?_
   rotate_left
   ·show Act.put _ (some 36) _ = _
    simp only [Act.put, sA, sZ, sS, i64_w, i32_w]
    rfl
   refine pure_ (i := 23) (N := some 37) (v := ?_) (a' := ?_) (mb 45 3525211848703) rfl rfl (any_of HT_.out (by kernel_rfl)) (fun _ _ _ h => h) (Or.inl ⟨by rfl, ?_⟩) ?_ ?_
   rotate_left; (·intro w'; go_simp; (first | with_reducible rfl | (refine if_neg ?_; omega))); rotate_left; (·simp only [Act.put, sA, sZ, sS, i64_w, i32_w]; rfl)
   refine pure_ (i := 24) (N := some 38) (v := ?_) (a' := ?_) (mb 45 3525228625919) rfl rfl (any_of HT_.out (by kernel_rfl)) (fun _ _ _ h => h) (Or.inl ⟨by rfl, ?_⟩) ?_ ?_
   rotate_left; (·intro w'; go_simp; (first | with_reducible rfl | (refine if_neg ?_; omega))); rotate_left; (·simp only [Act.put, sA, sZ, sS, i64_w, i32_w]; rfl)
   refine one_ (i := 27) (N := some 41) (mb 45 3525362843647) rfl rfl (one_of HT_.out (by kernel_rfl)) (by decide) (fun K hK => ?_)
   refine goes_ Tryd.func22 (by kernel_rfl) rfl #[.int .i64 a0_4, .int .i64 2] (by rfl) rfl rfl (by (try simp only [mT, mC, mN]) <;> rfl) ?_
   with_reducible refine (impl_decimal.calls kj3 a0_4 2 t234 _ A26.out).mono ?_
   rintro e w' ⟨rfl, ⟨nd, rfl⟩⟩
   refine ⟨_, rfl, ?_⟩
   refine hK.out _ _ ⟨(Ba BK227.out 0).trans rfl, (Ba BK227.out 1).trans rfl, (Ba BK227.out 2).trans rfl, (Ba BK227.out 3).trans rfl, (Ba BK227.out 4).trans rfl, (Ba BK227.out 5).trans rfl, (Ba BK227.out 6).trans rfl, ((HB.out.cell (World.block_lt_of_cell? w _ hw231_0)).trans hw231_0)⟩ (fun hHeld => ?_)
   clear hK K
   refine norm_ (a' := ?_) ?_ ?_
   rotate_left
   ·show Act.put _ (some 41) _ = _
    simp only [Act.put, sA, sZ, sS, i64_w, i32_w]
    rfl
   refine pure_ (i := 28) (N := some 42) (v := ?_) (a' := ?_) (mb 45 3525631279103) rfl rfl (any_of HT_.out (by kernel_rfl)) (fun _ _ _ h => h) (Or.inl ⟨by rfl, ?_⟩) ?_ ?_
   rotate_left; (·intro w'; go_simp; (first | with_reducible rfl | (refine if_neg ?_; omega))); rotate_left; (·simp only [Act.put, sA, sZ, sS, i64_w, i32_w]; rfl)
   refine pure_ (i := 29) (N := some 43) (v := ?_) (a' := ?_) (mb 45 3526168150015) rfl rfl (any_of HT_.out (by kernel_rfl)) (fun _ _ _ h => h) (Or.inl ⟨by rfl, ?_⟩) ?_ ?_
   rotate_left; (·intro w'; go_simp; (first | with_reducible rfl | (refine if_neg ?_; omega))); rotate_left; (·simp only [Act.put, sA, sZ, sS, i64_w, i32_w]; rfl)
   refine one_ (i := 32) (N := some 46) (mb 45 3530463117311) rfl rfl (one_of HT_.out (by kernel_rfl)) (by decide) (fun K hK => ?_)
   refine goes_ Tryd.func22 (by kernel_rfl) rfl #[.int .i64 a0_5, .int .i64 2] (by rfl) rfl rfl (by (try simp only [mT, mC, mN]) <;> rfl) ?_
   with_reducible refine (impl_decimal.calls kj3 a0_5 2 t235 _ A29.out).mono ?_
   rintro e w' ⟨rfl, ⟨nd, rfl⟩⟩
   refine ⟨_, rfl, ?_⟩
   refine hK.out _ _ ⟨(Ba BK227.out 0).trans rfl, (Ba BK227.out 1).trans rfl, (Ba BK227.out 2).trans rfl, (Ba BK227.out 3).trans rfl, (Ba BK227.out 4).trans rfl, (Ba BK227.out 5).trans rfl, (Ba BK227.out 6).trans rfl, ((HB.out.cell (World.block_lt_of_cell? w _ hw231_0)).trans hw231_0)⟩ (fun hHeld => ?_)
   clear hK K
   refine norm_ (a' := ?_) ?_ ?_
   rotate_left
   ·show Act.put _ (some 46) _ = _
    simp only [Act.put, sA, sZ, sS, i64_w, i32_w]
    rfl
   refine pure_ (i := 33) (N := some 47) (v := ?_) (a' := ?_) (mb 45 3539053051903) rfl rfl (any_of HT_.out (by kernel_rfl)) (fun _ _ _ h => h) (Or.inl ⟨by rfl, ?_⟩) ?_ ?_
   rotate_left; (·intro w'; go_simp; (first | with_reducible rfl | (refine if_neg ?_; omega))); rotate_left; (·simp only [Act.put, sA, sZ, sS, i64_w, i32_w]; rfl)
   refine pure_ (i := 35) (N := some 49) (v := ?_) (a' := ?_) (mb 45 3573412790271) rfl rfl (any_of HT_.out (by kernel_rfl)) (fun _ _ _ h => h) (Or.inl ⟨by rfl, ?_⟩) ?_ ?_
   rotate_left; (·intro w'; go_simp; (first | with_reducible rfl | (refine if_neg ?_; omega))); rotate_left; (·simp only [Act.put, sA, sZ, sS, i64_w, i32_w]; rfl)
   refine one_ (i := 38) (N := some 52) (mb 45 3848290697215) rfl rfl (one_of HT_.out (by kernel_rfl)) (by decide) (fun K hK => ?_)
   refine goes_ Tryd.func22 (by kernel_rfl) rfl #[.int .i64 (wrap64 (Int.tdiv x4_3 60)), .int .i64 2] (by rfl) rfl rfl (by (try simp only [mT, mC, mN]) <;> rfl) ?_
   with_reducible refine (impl_decimal.calls kj3 (wrap64 (Int.tdiv x4_3 60)) 2 t236 _ A32.out).mono ?_
   rintro e w' ⟨rfl, ⟨nd, rfl⟩⟩
   refine ⟨_, rfl, ?_⟩
   refine hK.out _ _ ⟨(Ba BK227.out 0).trans rfl, (Ba BK227.out 1).trans rfl, (Ba BK227.out 2).trans rfl, (Ba BK227.out 3).trans rfl, (Ba BK227.out 4).trans rfl, (Ba BK227.out 5).trans rfl, (Ba BK227.out 6).trans rfl, ((HB.out.cell (World.block_lt_of_cell? w _ hw231_0)).trans hw231_0)⟩ (fun hHeld => ?_)
   clear hK K
   refine norm_ (a' := ?_) ?_ ?_
   rotate_left
   ·show Act.put _ (some 52) _ = _
    simp only [Act.put, sA, sZ, sS, i64_w, i32_w]
    rfl
   refine pure_ (i := 39) (N := some 53) (v := ?_) (a' := ?_) (mb 45 4398046511103) rfl rfl (any_of HT_.out (by kernel_rfl)) (fun _ _ _ h => h) (Or.inl ⟨by rfl, ?_⟩) ?_ ?_
   rotate_left; (·intro w'; go_simp; (first | with_reducible rfl | (refine if_neg ?_; omega))); rotate_left; (·simp only [Act.put, sA, sZ, sS, i64_w, i32_w]; rfl)
   refine one_ (i := 42) (N := some 56) (mb 45 8796093022207) rfl rfl (one_of HT_.out (by kernel_rfl)) (by decide) (fun K hK => ?_)
   refine goes_ Tryd.func22 (by kernel_rfl) rfl #[.int .i64 (Int.tmod x4_3 60), .int .i64 2] (by rfl) rfl rfl (by (try simp only [mT, mC, mN]) <;> rfl) ?_
   with_reducible refine (impl_decimal.calls kj3 (Int.tmod x4_3 60) 2 t237 _ A34.out).mono ?_
   rintro e w' ⟨rfl, ⟨nd, rfl⟩⟩
   refine ⟨_, rfl, ?_⟩
   refine hK.out _ _ ⟨(Ba BK227.out 0).trans rfl, (Ba BK227.out 1).trans rfl, (Ba BK227.out 2).trans rfl, (Ba BK227.out 3).trans rfl, (Ba BK227.out 4).trans rfl, (Ba BK227.out 5).trans rfl, (Ba BK227.out 6).trans rfl, ((HB.out.cell (World.block_lt_of_cell? w _ hw231_0)).trans hw231_0)⟩ (fun hHeld => ?_)
   clear hK K
   refine norm_ (a' := ?_) ?_ ?_
   rotate_left
   ·show Act.put _ (some 56) _ = _
    simp only [Act.put, sA, sZ, sS, i64_w, i32_w]
    rfl
   refine pure_ (i := 43) (N := some 57) (v := ?_) (a' := ?_) (mb 45 17592186044415) rfl rfl (any_of HT_.out (by kernel_rfl)) (fun _ _ _ h => h) (Or.inl ⟨by rfl, ?_⟩) ?_ ?_
   rotate_left; (·intro w'; go_simp; (first | with_reducible rfl | (refine if_neg ?_; omega))); rotate_left; (·simp only [Act.put, sA, sZ, sS, i64_w, i32_w]; rfl)
   refine pure_ (i := 44) (N := some 2) (v := ?_) (a' := ?_) (mb 45 35184372088831) rfl rfl (any_of HT_.out (by kernel_rfl)) (fun _ _ _ h => h) (Or.inl ⟨by rfl, ?_⟩) ?_ ?_
   rotate_left; (·intro w'; go_simp; (first | with_reducible rfl | (refine if_neg ?_; omega))); rotate_left; (·simp only [Act.put, sA, sZ, sS, i64_w, i32_w]; rfl)
   refine done_ (done_of HT_.out (by kernel_rfl)) ?_
   try go_wp2
   go_ret
   exact ⟨by first | with_reducible rfl | (simp only [← hji15]; with_reducible rfl) | rfl | (simp [errW_none, errW_some] <;> rfl) | (simp only [← hji15]; first | rfl | (simp [errW_none, errW_some] <;> rfl)) | (simp [*, errW_none, errW_some] <;> rfl), by repeat (with_reducible first | exact HB.out | apply Be | apply Bc | apply Bd | refine Bs ?_ GE227.out)⟩
end Go.Proofs.YtafpbechcjcdbaaDoor.PFnDateText
