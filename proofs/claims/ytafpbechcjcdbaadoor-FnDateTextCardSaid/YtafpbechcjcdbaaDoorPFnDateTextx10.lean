-- By a program of this session.
import Derived.Test.YtafpbechcjcdbaaDoorPFnDateTextx0
import Derived.Test.YtafpbechcjcdbaaDoorPFnDateTextx9
namespace Go.Proofs.YtafpbechcjcdbaaDoor.PFnDateText
open Go.RowKit Go.Proofs.YtafpbechcjcdbaaDoorW.PrintWords Go.Proofs.YtafpbechcjcdbaaDoorW.PrintLast Go.Proofs.YtafpbechcjcdbaaDoorW.PrintMore
open Go.Proofs.YtafpbechcjcdbaaDoorW.PrintWords renaming blk_cell → Ba, blk_frozen → Bb, pw_below_drewN → Bc, below_drew1 → Bd, below_alloc → Be, blk_drewN → Bf, blk_alloc → Bg, blk_drew → Bh, below_set → Bs
open Go.Proofs.YtafpbechcjcdbaaDoorW.PrintWords.Aside0 renaming mk → aM
open Option renaming bind_eq_some_iff → bI
open Bool renaming true → Y, false → X
open List renaming setIfInBounds_toArray → sA, set_cons_zero → sZ, set_cons_succ → sS, map_toArray → mT, map_cons → mC, map_nil → mN, length_drop → lD, length_take → lT
attribute [local go_sem] max2_int min2_int max_two min_two max_three min_three max_four min_four
set_option linter.unusedVariables false
set_option linter.unusedSimpArgs false
theorem more_ {P : Program} {ops : Array Oper} {Q : Exit → Act → World → Prop} {md : Region.Mode} {S S' : World → Prop} (hSS : ∀ w, S' w → S w) : ∀ (fuel : Nat) (l : Array Bool) (a : Act) (w : World), S' w → (S' w → wpAnyLast P md ops Q S' [] fuel l a w) → wpAnyLast P md ops Q S [] fuel l a w
 | 0, _, _, _, hS, h => h hS
 | fuel + 1, l, a, w, hS, h => by
  have h0 := h hS
  refine ⟨h0.1, fun i hi => wpOp_mono (fun a' w' h' => ?_) (h0.2 i hi)⟩
  have hS' : S' w' := h'.1 (by simp) hS
  exact ⟨fun _ _ => hSS _ hS', more_ hSS fuel _ _ _ hS' (fun _ => h'.2)⟩
def spec_FormatDate.j0 : Nat → ByteArray → Int → Int → Int → Int → Int → Int → Int → Int → Option (ByteArray)
 | 0, _, _, _, _, _, _, _, _, _ => none
 | k + 1, x3, x4, x267000, x267001, x267002, x267003, x267004, x267005, x267006 => (spec_WeekdayOf.f k x267000 x267001 x267002 x267003 x267004 x267005 x267006).bind fun t268 => (if t268.size + 2 ≤ 9223372036854775807 then ((spec_l13Dec.f k x267002).bind fun t269 => (if (t268 ++ (⟨#[44, 32]⟩ : ByteArray)).size + t269.size ≤ 9223372036854775807 then (if ((t268 ++ (⟨#[44, 32]⟩ : ByteArray)) ++ t269).size + 1 ≤ 9223372036854775807 then ((spec_l4Months.f).bind fun t270 => (if 0 ≤ (wrap64 (x267001 - 1)) then (if (wrap64 (x267001 - 1)) < (t270.length : Int) then (if (((t268 ++ (⟨#[44, 32]⟩ : ByteArray)) ++ t269) ++ (⟨#[32]⟩ : ByteArray)).size + (rdOf ByteArray.empty t270 (wrap64 (x267001 - 1))).size ≤ 9223372036854775807 then (if ((((t268 ++ (⟨#[44, 32]⟩ : ByteArray)) ++ t269) ++ (⟨#[32]⟩ : ByteArray)) ++ (rdOf ByteArray.empty t270 (wrap64 (x267001 - 1)))).size + 1 ≤ 9223372036854775807 then ((spec_l13Dec.f k x267000).bind fun t274 => (if (((((t268 ++ (⟨#[44, 32]⟩ : ByteArray)) ++ t269) ++ (⟨#[32]⟩ : ByteArray)) ++ (rdOf ByteArray.empty t270 (wrap64 (x267001 - 1)))) ++ (⟨#[32]⟩ : ByteArray)).size + t274.size ≤ 9223372036854775807 then (if ((((((t268 ++ (⟨#[44, 32]⟩ : ByteArray)) ++ t269) ++ (⟨#[32]⟩ : ByteArray)) ++ (rdOf ByteArray.empty t270 (wrap64 (x267001 - 1)))) ++ (⟨#[32]⟩ : ByteArray)) ++ t274).size + 1 ≤ 9223372036854775807 then ((spec_l4Two.f k x267003).bind fun t275 => (if (((((((t268 ++ (⟨#[44, 32]⟩ : ByteArray)) ++ t269) ++ (⟨#[32]⟩ : ByteArray)) ++ (rdOf ByteArray.empty t270 (wrap64 (x267001 - 1)))) ++ (⟨#[32]⟩ : ByteArray)) ++ t274) ++ (⟨#[32]⟩ : ByteArray)).size + t275.size ≤ 9223372036854775807 then (if ((((((((t268 ++ (⟨#[44, 32]⟩ : ByteArray)) ++ t269) ++ (⟨#[32]⟩ : ByteArray)) ++ (rdOf ByteArray.empty t270 (wrap64 (x267001 - 1)))) ++ (⟨#[32]⟩ : ByteArray)) ++ t274) ++ (⟨#[32]⟩ : ByteArray)) ++ t275).size + 1 ≤ 9223372036854775807 then ((spec_l4Two.f k x267004).bind fun t276 => (if (((((((((t268 ++ (⟨#[44, 32]⟩ : ByteArray)) ++ t269) ++ (⟨#[32]⟩ : ByteArray)) ++ (rdOf ByteArray.empty t270 (wrap64 (x267001 - 1)))) ++ (⟨#[32]⟩ : ByteArray)) ++ t274) ++ (⟨#[32]⟩ : ByteArray)) ++ t275) ++ (⟨#[58]⟩ : ByteArray)).size + t276.size ≤ 9223372036854775807 then (if ((((((((((t268 ++ (⟨#[44, 32]⟩ : ByteArray)) ++ t269) ++ (⟨#[32]⟩ : ByteArray)) ++ (rdOf ByteArray.empty t270 (wrap64 (x267001 - 1)))) ++ (⟨#[32]⟩ : ByteArray)) ++ t274) ++ (⟨#[32]⟩ : ByteArray)) ++ t275) ++ (⟨#[58]⟩ : ByteArray)) ++ t276).size + 1 ≤ 9223372036854775807 then ((spec_l4Two.f k x267005).bind fun t277 => (if (((((((((((t268 ++ (⟨#[44, 32]⟩ : ByteArray)) ++ t269) ++ (⟨#[32]⟩ : ByteArray)) ++ (rdOf ByteArray.empty t270 (wrap64 (x267001 - 1)))) ++ (⟨#[32]⟩ : ByteArray)) ++ t274) ++ (⟨#[32]⟩ : ByteArray)) ++ t275) ++ (⟨#[58]⟩ : ByteArray)) ++ t276) ++ (⟨#[58]⟩ : ByteArray)).size + t277.size ≤ 9223372036854775807 then (if ((((((((((((t268 ++ (⟨#[44, 32]⟩ : ByteArray)) ++ t269) ++ (⟨#[32]⟩ : ByteArray)) ++ (rdOf ByteArray.empty t270 (wrap64 (x267001 - 1)))) ++ (⟨#[32]⟩ : ByteArray)) ++ t274) ++ (⟨#[32]⟩ : ByteArray)) ++ t275) ++ (⟨#[58]⟩ : ByteArray)) ++ t276) ++ (⟨#[58]⟩ : ByteArray)) ++ t277).size + 1 ≤ 9223372036854775807 then (if (((((((((((((t268 ++ (⟨#[44, 32]⟩ : ByteArray)) ++ t269) ++ (⟨#[32]⟩ : ByteArray)) ++ (rdOf ByteArray.empty t270 (wrap64 (x267001 - 1)))) ++ (⟨#[32]⟩ : ByteArray)) ++ t274) ++ (⟨#[32]⟩ : ByteArray)) ++ t275) ++ (⟨#[58]⟩ : ByteArray)) ++ t276) ++ (⟨#[58]⟩ : ByteArray)) ++ t277) ++ (⟨#[32]⟩ : ByteArray)).size + x3.size ≤ 9223372036854775807 then ((spec_l4Two.f k (wrap64 (Int.tdiv x4 60))).bind fun t278 => (if ((((((((((((((t268 ++ (⟨#[44, 32]⟩ : ByteArray)) ++ t269) ++ (⟨#[32]⟩ : ByteArray)) ++ (rdOf ByteArray.empty t270 (wrap64 (x267001 - 1)))) ++ (⟨#[32]⟩ : ByteArray)) ++ t274) ++ (⟨#[32]⟩ : ByteArray)) ++ t275) ++ (⟨#[58]⟩ : ByteArray)) ++ t276) ++ (⟨#[58]⟩ : ByteArray)) ++ t277) ++ (⟨#[32]⟩ : ByteArray)) ++ x3).size + t278.size ≤ 9223372036854775807 then ((spec_l4Two.f k (Int.tmod x4 60)).bind fun t279 => (if (((((((((((((((t268 ++ (⟨#[44, 32]⟩ : ByteArray)) ++ t269) ++ (⟨#[32]⟩ : ByteArray)) ++ (rdOf ByteArray.empty t270 (wrap64 (x267001 - 1)))) ++ (⟨#[32]⟩ : ByteArray)) ++ t274) ++ (⟨#[32]⟩ : ByteArray)) ++ t275) ++ (⟨#[58]⟩ : ByteArray)) ++ t276) ++ (⟨#[58]⟩ : ByteArray)) ++ t277) ++ (⟨#[32]⟩ : ByteArray)) ++ x3) ++ t278).size + t279.size ≤ 9223372036854775807 then (some ((((((((((((((((t268 ++ (⟨#[44, 32]⟩ : ByteArray)) ++ t269) ++ (⟨#[32]⟩ : ByteArray)) ++ (rdOf ByteArray.empty t270 (wrap64 (x267001 - 1)))) ++ (⟨#[32]⟩ : ByteArray)) ++ t274) ++ (⟨#[32]⟩ : ByteArray)) ++ t275) ++ (⟨#[58]⟩ : ByteArray)) ++ t276) ++ (⟨#[58]⟩ : ByteArray)) ++ t277) ++ (⟨#[32]⟩ : ByteArray)) ++ x3) ++ t278) ++ t279)) else (none))) else (none))) else (none)) else (none)) else (none))) else (none)) else (none))) else (none)) else (none))) else (none)) else (none))) else (none)) else (none)) else (none)) else (none))) else (none)) else (none))) else (none))
def spec_FormatDate.f (k : Nat) (a0_0 : Int) (a0_1 : Int) (a0_2 : Int) (a0_3 : Int) (a0_4 : Int) (a0_5 : Int) (a0_6 : Int) : Option (ByteArray) := (spec_DateValid.f k a0_0 a0_1 a0_2 a0_3 a0_4 a0_5 a0_6).bind fun t267 => (if t267 = true then (if a0_6 < 0 then (spec_FormatDate.j0 k (⟨#[45]⟩ : ByteArray) (wrap64 (-a0_6)) a0_0 a0_1 a0_2 a0_3 a0_4 a0_5 a0_6) else (spec_FormatDate.j0 k (⟨#[43]⟩ : ByteArray) a0_6 a0_0 a0_1 a0_2 a0_3 a0_4 a0_5 a0_6)) else (some (⟨#[]⟩ : ByteArray)))
theorem spec_FormatDate.mono_l : ∀ k, (∀ y0 y1 y2 y3 y4 y5 y6 y7 y8, LeO (spec_FormatDate.j0 k y0 y1 y2 y3 y4 y5 y6 y7 y8) (spec_FormatDate.j0 (k + 1) y0 y1 y2 y3 y4 y5 y6 y7 y8))
 | 0 => fun _ _ _ _ _ _ _ _ _ r h => by simp [spec_FormatDate.j0] at h
 | k + 1 => by
  have ih0 := spec_FormatDate.mono_l k
  intro y0 y1 y2 y3 y4 y5 y6 y7 y8
  unfold spec_FormatDate.j0
  repeat' first
  | (with_reducible exact ih0 _ _ _ _ _ _ _ _ _)
  | (with_reducible exact spec_DateValid.mono _ _ _ _ _ _ _ _)
  | (with_reducible exact spec_WeekdayOf.mono _ _ _ _ _ _ _ _)
  | (with_reducible exact spec_l13Dec.mono _ _)
  | (with_reducible exact spec_l4Two.mono _ _)
  | (with_reducible exact LeO.refl _)
  | (with_reducible exact LeO.none _)
  | (with_reducible refine LeO.ite ?_ ?_)
  | (with_reducible refine LeO.bind ?_ (fun _ => ?_))
theorem spec_FormatDate.mono : ∀ a0 a1 a2 a3 a4 a5 a6 k, LeO (spec_FormatDate.f k a0 a1 a2 a3 a4 a5 a6) (spec_FormatDate.f (k + 1) a0 a1 a2 a3 a4 a5 a6) := by
 intro a0 a1 a2 a3 a4 a5 a6 k
 have ih0 := spec_FormatDate.mono_l k
 unfold spec_FormatDate.f
 repeat' first
   | (with_reducible exact ih0 _ _ _ _ _ _ _ _ _)
   | (with_reducible exact spec_DateValid.mono _ _ _ _ _ _ _ _)
   | (with_reducible exact spec_WeekdayOf.mono _ _ _ _ _ _ _ _)
   | (with_reducible exact spec_l13Dec.mono _ _)
   | (with_reducible exact spec_l4Two.mono _ _)
   | (with_reducible exact LeO.refl _)
   | (with_reducible exact LeO.none _)
   | (with_reducible refine LeO.ite ?_ ?_)
   | (with_reducible refine LeO.bind ?_ (fun _ => ?_))
def spec_FormatDate.T8 : Bool × List (List Nat × List Nat) := (true, [([], []), ([0], [0]), ([1], [1]), ([], []), ([3], [3]), ([4, 1], [4]), ([2, 5], [2, 5]), ([6], [6]), ([5], []), ([], []), ([9], [9]), ([10], [10]), ([8, 11], [8, 11]), ([12], [12]), ([7, 13], [7, 13]), ([14], [14]), ([], []), ([16], [16]), ([17, 8], [17]), ([15, 18], [15, 18]), ([19], [19]), ([], []), ([21], [21]), ([22, 18], [22]), ([20, 23], [20, 23]), ([24], [24]), ([], []), ([26], [26]), ([27, 23], [27]), ([25, 28], [25, 28]), ([29], [29]), ([], []), ([31], [31]), ([32, 28], [32]), ([30, 33], [30, 33]), ([34], [34]), ([], []), ([35, 36], [35, 36]), ([], []), ([38], [38]), ([39, 33], [39]), ([37, 40], [37, 40]), ([], []), ([42], [42]), ([43, 40], [43]), ([41, 44], [41, 44]), ([45, 44, 0, 1, 2, 3, 4, 5, 6, 7, 8, 9, 10, 11, 12, 13, 14, 15, 16, 17, 18, 19, 20, 21, 22, 23, 24, 25, 26, 27, 28, 29, 30, 31, 32, 33, 34, 35, 36, 37, 38, 39, 40, 41, 42, 43, 44, 45], [45])])
def spec_FormatDate.B8 : List Nat := [0, 1, 3, 0, 8, 27, 63, 127, 59, 0, 512, 1536, 3899, 7995, 16383, 32767, 0, 65536, 196923, 524287, 1048575, 0, 2097152, 6750523, 16777215, 33554431, 0, 67108864, 216465723, 536870911, 1073741823, 0, 2147483648, 6927352123, 17179869183, 34359738367, 0, 137438953471, 0, 274877906944, 840151007547, 2199023255551, 0, 4398046511104, 15133802168635, 35184372088831, 70368744177663]
theorem spec_FormatDate.tab8 : rtab .any (opsOf Tryd.f11 8) = spec_FormatDate.T8 := by kernel_rfl
theorem spec_FormatDate.bits8 : waitsOk spec_FormatDate.T8.2 spec_FormatDate.B8 = true := by kernel_rfl
set_option maxHeartbeats 8000000 in
set_option maxRecDepth 100000 in
theorem spec_FormatDate.calls (k : Nat) (a0_0 : Int) (a0_1 : Int) (a0_2 : Int) (a0_3 : Int) (a0_4 : Int) (a0_5 : Int) (a0_6 : Int) (r : ByteArray) (w : World) (h : spec_FormatDate.f k a0_0 a0_1 a0_2 a0_3 a0_4 a0_5 a0_6 = some r) :
  Calls Tryd.prog 11 #[.agg #[.int .i64 a0_0, .int .i64 a0_1, .int .i64 a0_2, .int .i64 a0_3, .int .i64 a0_4, .int .i64 a0_5, .int .i64 a0_6]] w fun e w' => e = .returned (.string r) ∧ Below w.heap.size w w' := by
 have hu24 := Tryd.underlying24
 have HB := aM (Below.refl w.heap.size w)
 have H : ((spec_DateValid.f k a0_0 a0_1 a0_2 a0_3 a0_4 a0_5 a0_6).bind fun t267 => (if t267 = true then (if a0_6 < 0 then (spec_FormatDate.j0 k (⟨#[45]⟩ : ByteArray) (wrap64 (-a0_6)) a0_0 a0_1 a0_2 a0_3 a0_4 a0_5 a0_6) else (spec_FormatDate.j0 k (⟨#[43]⟩ : ByteArray) a0_6 a0_0 a0_1 a0_2 a0_3 a0_4 a0_5 a0_6)) else (some (⟨#[]⟩ : ByteArray)))) = some r := h
 clear h
 replace H := bI.mp H
 obtain ⟨t267, A20, H⟩ := H
 (try dsimp only at H)
 have A2 := aM A20
 clear A20
 by_cases c3 : t267 = true
 rotate_left
 ·replace c3 := Bool.eq_false_iff.mpr c3
  subst c3
  have H1 : (some (⟨#[]⟩ : ByteArray)) = some r := by rw [if_neg (show ¬ (false = true) by decide)] at H; exact H
  clear H
  have H := H1
  clear H1
  obtain rfl := Option.some.inj H
  go_enter Tryd.func11, Tryd.ntmps11
  go_wp2_with (first | ((with_reducible refine gate_dst (N := 1) rfl ?_); refine box_event ?hg (N := 1) ?hd (cs := #[.int .i64 a0_0, .int .i64 a0_1, .int .i64 a0_2, .int .i64 a0_3, .int .i64 a0_4, .int .i64 a0_5, .int .i64 a0_6]) (t := 24) ?hr ?_; (case hd => rfl); (case hg => rfl); (case hr => first | (go_simp; done) | (go_simp; rfl)); intro gb266 hg w49 hbox hb; have n0_ := aM (below_step (by repeat (with_reducible first | exact HB.out | apply Be | apply Bc | apply Bd)) hb); have n1_ := aM (hbox); have n2_ := aM ((by rw [hg]; exact (below_size (by repeat (with_reducible first | exact HB.out | apply Be | apply Bc | apply Bd))) : w.heap.size ≤ gb266)); have n3_ := n2_; clear HB; have HB := n0_; have BK266 := n1_; have GW266 := n2_; have GE266 := n3_; clear n0_ n1_ n2_ n3_; clear hb hbox hg; obtain ⟨hcz50_0, hcz50_1, hcz50_2, hcz50_3, hcz50_4, hcz50_5, hcz50_6⟩ := c7_ BK266.out; obtain ⟨hfz50_0, hfz50_1, hfz50_2, hfz50_3, hfz50_4, hfz50_5, hfz50_6⟩ := f7_ BK266.out) | ((with_reducible refine gate_callee (f := 19) rfl ?_); refine goesL_ (some 6) rfl rfl Tryd.func19 (by kernel_rfl) rfl #[.agg #[.int .i64 a0_0, .int .i64 a0_1, .int .i64 a0_2, .int .i64 a0_3, .int .i64 a0_4, .int .i64 a0_5, .int .i64 a0_6]] rfl (by (try simp only [mT, mC, mN]) <;> rfl) ?_; (with_reducible refine (spec_DateValid.calls k a0_0 a0_1 a0_2 a0_3 a0_4 a0_5 a0_6 false _ A2.out).mono ?_); rintro e w51 ⟨rfl, hb⟩; refine ⟨_, rfl, ?_⟩; have n0_ := aM (blk_below (by (with_reducible repeat (first | refine Bf ?_ _ | refine Bh ?_ | refine Bg ?_ _)); exact BK266.out) hb); have n1_ := aM (below_step (by repeat (with_reducible first | exact HB.out | apply Be | apply Bc | apply Bd | refine Bs ?_ GE266.out)) hb); clear BK266; clear HB; have BK266 := n0_; have HB := n1_; clear n0_ n1_; (try clear hb); (try clear hb2); (try clear hk); (try clear hi)))
  go_ret
  exact ⟨by first | rfl | (simp [errW_none, errW_some] <;> rfl) | (simp [*, errW_none, errW_some] <;> rfl), by repeat (with_reducible first | exact HB.out | apply Be | apply Bc | apply Bd | refine Bs ?_ GE266.out)⟩
 subst c3
 have H1 : (if a0_6 < 0 then (spec_FormatDate.j0 k (⟨#[45]⟩ : ByteArray) (wrap64 (-a0_6)) a0_0 a0_1 a0_2 a0_3 a0_4 a0_5 a0_6) else (spec_FormatDate.j0 k (⟨#[43]⟩ : ByteArray) a0_6 a0_0 a0_1 a0_2 a0_3 a0_4 a0_5 a0_6)) = some r := by rw [if_pos rfl] at H; exact H
 clear H
 have H := H1
 clear H1
 have HC4 := aM H
 clear H
 go_enter Tryd.func11, Tryd.ntmps11
 go_upto_if 11 with (first | ((with_reducible refine gate_dst (N := 1) rfl ?_); refine box_event ?hg (N := 1) ?hd (cs := #[.int .i64 a0_0, .int .i64 a0_1, .int .i64 a0_2, .int .i64 a0_3, .int .i64 a0_4, .int .i64 a0_5, .int .i64 a0_6]) (t := 24) ?hr ?_; (case hd => rfl); (case hg => rfl); (case hr => first | (go_simp; done) | (go_simp; rfl)); intro gb266 hg w5 hbox hb; have n0_ := aM (below_step (by repeat (with_reducible first | exact HB.out | apply Be | apply Bc | apply Bd)) hb); have n1_ := aM (hbox); have n2_ := aM ((by rw [hg]; exact (below_size (by repeat (with_reducible first | exact HB.out | apply Be | apply Bc | apply Bd))) : w.heap.size ≤ gb266)); have n3_ := n2_; clear HB; have HB := n0_; have BK266 := n1_; have GW266 := n2_; have GE266 := n3_; clear n0_ n1_ n2_ n3_; clear hb hbox hg; obtain ⟨hcz6_0, hcz6_1, hcz6_2, hcz6_3, hcz6_4, hcz6_5, hcz6_6⟩ := c7_ BK266.out; obtain ⟨hfz6_0, hfz6_1, hfz6_2, hfz6_3, hfz6_4, hfz6_5, hfz6_6⟩ := f7_ BK266.out) | ((with_reducible refine gate_callee (f := 19) rfl ?_); refine goesL_ (some 6) rfl rfl Tryd.func19 (by kernel_rfl) rfl #[.agg #[.int .i64 a0_0, .int .i64 a0_1, .int .i64 a0_2, .int .i64 a0_3, .int .i64 a0_4, .int .i64 a0_5, .int .i64 a0_6]] rfl (by (try simp only [mT, mC, mN]) <;> rfl) ?_; (with_reducible refine (spec_DateValid.calls k a0_0 a0_1 a0_2 a0_3 a0_4 a0_5 a0_6 true _ A2.out).mono ?_); rintro e w7 ⟨rfl, hb⟩; refine ⟨_, rfl, ?_⟩; have n0_ := aM (blk_below (by (with_reducible repeat (first | refine Bf ?_ _ | refine Bh ?_ | refine Bg ?_ _)); exact BK266.out) hb); have n1_ := aM (below_step (by repeat (with_reducible first | exact HB.out | apply Be | apply Bc | apply Bd | refine Bs ?_ GE266.out)) hb); clear BK266; clear HB; have BK266 := n0_; have HB := n1_; clear n0_ n1_; (try clear hb); (try clear hb2); (try clear hk); (try clear hi); obtain ⟨hcz8_0, hcz8_1, hcz8_2, hcz8_3, hcz8_4, hcz8_5, hcz8_6⟩ := c7_ BK266.out; obtain ⟨hfz8_0, hfz8_1, hfz8_2, hfz8_3, hfz8_4, hfz8_5, hfz8_6⟩ := f7_ BK266.out))
 (try simp only [Act.put, sA, sZ, sS])
 go_cut [3, 4] (fun v3 v4 wc => ∃ (kq : Nat) (x3_3 : ByteArray) (x4_3 : Int), v3 = .string x3_3 ∧ v4 = .int .i64 x4_3 ∧ Aside0 (spec_FormatDate.j0 kq x3_3 x4_3 a0_0 a0_1 a0_2 a0_3 a0_4 a0_5 a0_6 = some r) ∧ Aside0 (kq ≤ k) ∧ Aside0 (wc.heap[gb266]? = some (.cells #[.int .i64 a0_0, .int .i64 a0_1, .int .i64 a0_2, .int .i64 a0_3, .int .i64 a0_4, .int .i64 a0_5, .int .i64 a0_6] 24 (0, 0))) ∧ Aside0 (Below w.heap.size w wc))
 case first =>
  have H := HC4.out; clear HC4
  by_cases c9 : a0_6 < 0
  ·rw [if_pos c9] at H
   have c9b0 : decide (a0_6 < 0) = true := decide_eq_true c9
   clear c9
   (first | rw [c9b0] | (simp only [i64_w, i32_w]; rw [c9b0]) | skip)
   have H' := aM H
   clear H
   go_wp2
   go_meet
   case rel => exact ⟨_, ((⟨#[45]⟩ : ByteArray)), (wrap64 (-a0_6)), (by first | rfl | (simp; done) | (simp [*]; done)), (by first | rfl | (simp; done) | (simp [*]; done)), H', ⟨by first | omega | exact Nat.le_refl _⟩, ⟨by (with_reducible repeat (first | refine Bf ?_ _ | refine Bh ?_ | refine Bg ?_ _)); exact BK266.out⟩, ⟨by repeat (with_reducible first | exact HB.out | apply Be | apply Bc | apply Bd | refine Bs ?_ GE266.out)⟩⟩
  rw [if_neg c9] at H
  have c9b0 : decide (a0_6 < 0) = false := decide_eq_false c9
  clear c9
  (first | rw [c9b0] | (simp only [i64_w, i32_w]; rw [c9b0]) | skip)
  have H' := aM H
  clear H
  go_wp2
  go_meet
  case rel => exact ⟨_, ((⟨#[43]⟩ : ByteArray)), (a0_6), (by first | rfl | (simp; done) | (simp [*]; done)), (by first | rfl | (simp; done) | (simp [*]; done)), H', ⟨by first | omega | exact Nat.le_refl _⟩, ⟨by (with_reducible repeat (first | refine Bf ?_ _ | refine Bh ?_ | refine Bg ?_ _)); exact BK266.out⟩, ⟨by repeat (with_reducible first | exact HB.out | apply Be | apply Bc | apply Bd | refine Bs ?_ GE266.out)⟩⟩
 case rest =>
  clear HC4
  try clear c1
  try clear p2
  try clear c3
  try clear p6
  try clear c9
  try clear c9b0
  try clear hcz6_0 hcz6_1 hcz6_2 hcz6_3 hcz6_4 hcz6_5 hcz6_6
  try clear hcz8_0 hcz8_1 hcz8_2 hcz8_3 hcz8_4 hcz8_5 hcz8_6
  try clear hfz6_0 hfz6_1 hfz6_2 hfz6_3 hfz6_4 hfz6_5 hfz6_6
  try clear hfz8_0 hfz8_1 hfz8_2 hfz8_3 hfz8_4 hfz8_5 hfz8_6
  obtain ⟨kq, x3_3, x4_3, rfl, rfl, HA, HJ3, BK266, HB⟩ := hcut
  cases kq with
  | zero => exact absurd HA.out (by simp [spec_FormatDate.j0])
  | succ kj3 =>
   have H := HA.out; clear HA
   simp only [spec_FormatDate.j0] at H
   replace H := bI.mp H
   obtain ⟨t268, A100, H⟩ := H
   (try dsimp only at H)
   have A10 := aM A100; clear A100
   by_cases c11 : t268.size + 2 ≤ 9223372036854775807
   rotate_left
   ·rw [if_neg c11] at H
    exact absurd H (by simp)
   rw [if_pos c11] at H
   have c11b0 := eq_true c11
   have c11b1 : decide (t268.size + 2 ≤ 9223372036854775807) = true := decide_eq_true c11
   try have c11b2 : (9223372036854775807 < t268.size + 2) = False := eq_false (Nat.not_lt.2 c11)
   replace H := bI.mp H
   obtain ⟨t269, A120, H⟩ := H
   (try dsimp only at H)
   have A12 := aM A120; clear A120
   by_cases c13 : (t268 ++ (⟨#[44, 32]⟩ : ByteArray)).size + t269.size ≤ 9223372036854775807
   rotate_left
   ·rw [if_neg c13] at H
    exact absurd H (by simp)
   rw [if_pos c13] at H
   have c13b0 := eq_true c13
   have c13b1 : decide ((t268 ++ (⟨#[44, 32]⟩ : ByteArray)).size + t269.size ≤ 9223372036854775807) = true := decide_eq_true c13
   try have c13b2 : (9223372036854775807 < (t268 ++ (⟨#[44, 32]⟩ : ByteArray)).size + t269.size) = False := eq_false (Nat.not_lt.2 c13)
   (try (have c13n := c13; simp only [ByteArray.size_append, show (⟨#[44, 32]⟩ : ByteArray).size = 2 from rfl] at c13n))
   by_cases c14 : ((t268 ++ (⟨#[44, 32]⟩ : ByteArray)) ++ t269).size + 1 ≤ 9223372036854775807
   rotate_left
   ·rw [if_neg c14] at H
    exact absurd H (by simp)
   rw [if_pos c14] at H
   have c14b0 := eq_true c14
   have c14b1 : decide (((t268 ++ (⟨#[44, 32]⟩ : ByteArray)) ++ t269).size + 1 ≤ 9223372036854775807) = true := decide_eq_true c14
   try have c14b2 : (9223372036854775807 < ((t268 ++ (⟨#[44, 32]⟩ : ByteArray)) ++ t269).size + 1) = False := eq_false (Nat.not_lt.2 c14)
   (try (have c14n := c14; simp only [ByteArray.size_append, show (⟨#[44, 32]⟩ : ByteArray).size = 2 from rfl] at c14n))
   replace H := bI.mp H
   obtain ⟨t270, A150, H⟩ := H
   (try dsimp only at H)
   have A15 := aM A150; clear A150
   obtain ⟨ji16, hji16⟩ : ∃ j_ : Int, (wrap64 (a0_1 - 1)) = j_ := ⟨_, rfl⟩
   replace H : (if 0 ≤ (ji16) then (if (ji16) < (t270.length : Int) then (if (((t268 ++ (⟨#[44, 32]⟩ : ByteArray)) ++ t269) ++ (⟨#[32]⟩ : ByteArray)).size + (rdOf ByteArray.empty t270 (ji16)).size ≤ 9223372036854775807 then (if ((((t268 ++ (⟨#[44, 32]⟩ : ByteArray)) ++ t269) ++ (⟨#[32]⟩ : ByteArray)) ++ (rdOf ByteArray.empty t270 (ji16))).size + 1 ≤ 9223372036854775807 then ((spec_l13Dec.f kj3 a0_0).bind fun t274 => (if (((((t268 ++ (⟨#[44, 32]⟩ : ByteArray)) ++ t269) ++ (⟨#[32]⟩ : ByteArray)) ++ (rdOf ByteArray.empty t270 (ji16))) ++ (⟨#[32]⟩ : ByteArray)).size + t274.size ≤ 9223372036854775807 then (if ((((((t268 ++ (⟨#[44, 32]⟩ : ByteArray)) ++ t269) ++ (⟨#[32]⟩ : ByteArray)) ++ (rdOf ByteArray.empty t270 (ji16))) ++ (⟨#[32]⟩ : ByteArray)) ++ t274).size + 1 ≤ 9223372036854775807 then ((spec_l4Two.f kj3 a0_3).bind fun t275 => (if (((((((t268 ++ (⟨#[44, 32]⟩ : ByteArray)) ++ t269) ++ (⟨#[32]⟩ : ByteArray)) ++ (rdOf ByteArray.empty t270 (ji16))) ++ (⟨#[32]⟩ : ByteArray)) ++ t274) ++ (⟨#[32]⟩ : ByteArray)).size + t275.size ≤ 9223372036854775807 then (if ((((((((t268 ++ (⟨#[44, 32]⟩ : ByteArray)) ++ t269) ++ (⟨#[32]⟩ : ByteArray)) ++ (rdOf ByteArray.empty t270 (ji16))) ++ (⟨#[32]⟩ : ByteArray)) ++ t274) ++ (⟨#[32]⟩ : ByteArray)) ++ t275).size + 1 ≤ 9223372036854775807 then ((spec_l4Two.f kj3 a0_4).bind fun t276 => (if (((((((((t268 ++ (⟨#[44, 32]⟩ : ByteArray)) ++ t269) ++ (⟨#[32]⟩ : ByteArray)) ++ (rdOf ByteArray.empty t270 (ji16))) ++ (⟨#[32]⟩ : ByteArray)) ++ t274) ++ (⟨#[32]⟩ : ByteArray)) ++ t275) ++ (⟨#[58]⟩ : ByteArray)).size + t276.size ≤ 9223372036854775807 then (if ((((((((((t268 ++ (⟨#[44, 32]⟩ : ByteArray)) ++ t269) ++ (⟨#[32]⟩ : ByteArray)) ++ (rdOf ByteArray.empty t270 (ji16))) ++ (⟨#[32]⟩ : ByteArray)) ++ t274) ++ (⟨#[32]⟩ : ByteArray)) ++ t275) ++ (⟨#[58]⟩ : ByteArray)) ++ t276).size + 1 ≤ 9223372036854775807 then ((spec_l4Two.f kj3 a0_5).bind fun t277 => (if (((((((((((t268 ++ (⟨#[44, 32]⟩ : ByteArray)) ++ t269) ++ (⟨#[32]⟩ : ByteArray)) ++ (rdOf ByteArray.empty t270 (ji16))) ++ (⟨#[32]⟩ : ByteArray)) ++ t274) ++ (⟨#[32]⟩ : ByteArray)) ++ t275) ++ (⟨#[58]⟩ : ByteArray)) ++ t276) ++ (⟨#[58]⟩ : ByteArray)).size + t277.size ≤ 9223372036854775807 then (if ((((((((((((t268 ++ (⟨#[44, 32]⟩ : ByteArray)) ++ t269) ++ (⟨#[32]⟩ : ByteArray)) ++ (rdOf ByteArray.empty t270 (ji16))) ++ (⟨#[32]⟩ : ByteArray)) ++ t274) ++ (⟨#[32]⟩ : ByteArray)) ++ t275) ++ (⟨#[58]⟩ : ByteArray)) ++ t276) ++ (⟨#[58]⟩ : ByteArray)) ++ t277).size + 1 ≤ 9223372036854775807 then (if (((((((((((((t268 ++ (⟨#[44, 32]⟩ : ByteArray)) ++ t269) ++ (⟨#[32]⟩ : ByteArray)) ++ (rdOf ByteArray.empty t270 (ji16))) ++ (⟨#[32]⟩ : ByteArray)) ++ t274) ++ (⟨#[32]⟩ : ByteArray)) ++ t275) ++ (⟨#[58]⟩ : ByteArray)) ++ t276) ++ (⟨#[58]⟩ : ByteArray)) ++ t277) ++ (⟨#[32]⟩ : ByteArray)).size + x3_3.size ≤ 9223372036854775807 then ((spec_l4Two.f kj3 (wrap64 (Int.tdiv x4_3 60))).bind fun t278 => (if ((((((((((((((t268 ++ (⟨#[44, 32]⟩ : ByteArray)) ++ t269) ++ (⟨#[32]⟩ : ByteArray)) ++ (rdOf ByteArray.empty t270 (ji16))) ++ (⟨#[32]⟩ : ByteArray)) ++ t274) ++ (⟨#[32]⟩ : ByteArray)) ++ t275) ++ (⟨#[58]⟩ : ByteArray)) ++ t276) ++ (⟨#[58]⟩ : ByteArray)) ++ t277) ++ (⟨#[32]⟩ : ByteArray)) ++ x3_3).size + t278.size ≤ 9223372036854775807 then ((spec_l4Two.f kj3 (Int.tmod x4_3 60)).bind fun t279 => (if (((((((((((((((t268 ++ (⟨#[44, 32]⟩ : ByteArray)) ++ t269) ++ (⟨#[32]⟩ : ByteArray)) ++ (rdOf ByteArray.empty t270 (ji16))) ++ (⟨#[32]⟩ : ByteArray)) ++ t274) ++ (⟨#[32]⟩ : ByteArray)) ++ t275) ++ (⟨#[58]⟩ : ByteArray)) ++ t276) ++ (⟨#[58]⟩ : ByteArray)) ++ t277) ++ (⟨#[32]⟩ : ByteArray)) ++ x3_3) ++ t278).size + t279.size ≤ 9223372036854775807 then (some ((((((((((((((((t268 ++ (⟨#[44, 32]⟩ : ByteArray)) ++ t269) ++ (⟨#[32]⟩ : ByteArray)) ++ (rdOf ByteArray.empty t270 (ji16))) ++ (⟨#[32]⟩ : ByteArray)) ++ t274) ++ (⟨#[32]⟩ : ByteArray)) ++ t275) ++ (⟨#[58]⟩ : ByteArray)) ++ t276) ++ (⟨#[58]⟩ : ByteArray)) ++ t277) ++ (⟨#[32]⟩ : ByteArray)) ++ x3_3) ++ t278) ++ t279)) else (none))) else (none))) else (none)) else (none)) else (none))) else (none)) else (none))) else (none)) else (none))) else (none)) else (none))) else (none)) else (none)) else (none)) else (none)) = some r := by first | (rw [hji16] at H; exact H) | (simp only [hji16] at H ⊢; exact H)
   (try rw [hji16] at A10)
   (try rw [hji16] at A12)
   (try rw [hji16] at A15)
   have hji16w : (IntKind.i64.wrap (a0_1 - 1)) = ji16 := (i64_w _).trans hji16
   by_cases c17 : 0 ≤ (ji16)
   rotate_left
   ·rw [if_neg c17] at H
    exact absurd H (by simp)
   rw [if_pos c17] at H
   have c17b0 : decide (0 ≤ (ji16)) = true := decide_eq_true c17
   clear c17
   by_cases c18 : (ji16) < (t270.length : Int)
   rotate_left
   ·rw [if_neg c18] at H
    exact absurd H (by simp)
   rw [if_pos c18] at H
   have c18b0 : decide ((ji16) < (t270.length : Int)) = true := decide_eq_true c18
   clear c18
   by_cases c19 : (((t268 ++ (⟨#[44, 32]⟩ : ByteArray)) ++ t269) ++ (⟨#[32]⟩ : ByteArray)).size + (rdOf ByteArray.empty t270 (ji16)).size ≤ 9223372036854775807
   rotate_left
   ·rw [if_neg c19] at H
    exact absurd H (by simp)
   rw [if_pos c19] at H
   have c19b0 := eq_true c19
   have c19b1 : decide ((((t268 ++ (⟨#[44, 32]⟩ : ByteArray)) ++ t269) ++ (⟨#[32]⟩ : ByteArray)).size + (rdOf ByteArray.empty t270 (ji16)).size ≤ 9223372036854775807) = true := decide_eq_true c19
   try have c19b2 : (9223372036854775807 < (((t268 ++ (⟨#[44, 32]⟩ : ByteArray)) ++ t269) ++ (⟨#[32]⟩ : ByteArray)).size + (rdOf ByteArray.empty t270 (ji16)).size) = False := eq_false (Nat.not_lt.2 c19)
   (try (have c19n := c19; simp only [ByteArray.size_append, show (⟨#[32]⟩ : ByteArray).size = 1 from rfl, show (⟨#[44, 32]⟩ : ByteArray).size = 2 from rfl] at c19n))
   by_cases c20 : ((((t268 ++ (⟨#[44, 32]⟩ : ByteArray)) ++ t269) ++ (⟨#[32]⟩ : ByteArray)) ++ (rdOf ByteArray.empty t270 (ji16))).size + 1 ≤ 9223372036854775807
   rotate_left
   ·rw [if_neg c20] at H
    exact absurd H (by simp)
   rw [if_pos c20] at H
   have c20b0 := eq_true c20
   have c20b1 : decide (((((t268 ++ (⟨#[44, 32]⟩ : ByteArray)) ++ t269) ++ (⟨#[32]⟩ : ByteArray)) ++ (rdOf ByteArray.empty t270 (ji16))).size + 1 ≤ 9223372036854775807) = true := decide_eq_true c20
   try have c20b2 : (9223372036854775807 < ((((t268 ++ (⟨#[44, 32]⟩ : ByteArray)) ++ t269) ++ (⟨#[32]⟩ : ByteArray)) ++ (rdOf ByteArray.empty t270 (ji16))).size + 1) = False := eq_false (Nat.not_lt.2 c20)
   (try (have c20n := c20; simp only [ByteArray.size_append, show (⟨#[32]⟩ : ByteArray).size = 1 from rfl, show (⟨#[44, 32]⟩ : ByteArray).size = 2 from rfl] at c20n))
   replace H := bI.mp H
   obtain ⟨t274, A210, H⟩ := H
   (try dsimp only at H)
   have A21 := aM A210; clear A210
   by_cases c22 : (((((t268 ++ (⟨#[44, 32]⟩ : ByteArray)) ++ t269) ++ (⟨#[32]⟩ : ByteArray)) ++ (rdOf ByteArray.empty t270 (ji16))) ++ (⟨#[32]⟩ : ByteArray)).size + t274.size ≤ 9223372036854775807
   rotate_left
   ·rw [if_neg c22] at H
    exact absurd H (by simp)
   rw [if_pos c22] at H
   have c22b0 := eq_true c22
   have c22b1 : decide ((((((t268 ++ (⟨#[44, 32]⟩ : ByteArray)) ++ t269) ++ (⟨#[32]⟩ : ByteArray)) ++ (rdOf ByteArray.empty t270 (ji16))) ++ (⟨#[32]⟩ : ByteArray)).size + t274.size ≤ 9223372036854775807) = true := decide_eq_true c22
   try have c22b2 : (9223372036854775807 < (((((t268 ++ (⟨#[44, 32]⟩ : ByteArray)) ++ t269) ++ (⟨#[32]⟩ : ByteArray)) ++ (rdOf ByteArray.empty t270 (ji16))) ++ (⟨#[32]⟩ : ByteArray)).size + t274.size) = False := eq_false (Nat.not_lt.2 c22)
   (try (have c22n := c22; simp only [ByteArray.size_append, show (⟨#[32]⟩ : ByteArray).size = 1 from rfl, show (⟨#[44, 32]⟩ : ByteArray).size = 2 from rfl] at c22n))
   by_cases c23 : ((((((t268 ++ (⟨#[44, 32]⟩ : ByteArray)) ++ t269) ++ (⟨#[32]⟩ : ByteArray)) ++ (rdOf ByteArray.empty t270 (ji16))) ++ (⟨#[32]⟩ : ByteArray)) ++ t274).size + 1 ≤ 9223372036854775807
   rotate_left
   ·rw [if_neg c23] at H
    exact absurd H (by simp)
   rw [if_pos c23] at H
   have c23b0 := eq_true c23
   have c23b1 : decide (((((((t268 ++ (⟨#[44, 32]⟩ : ByteArray)) ++ t269) ++ (⟨#[32]⟩ : ByteArray)) ++ (rdOf ByteArray.empty t270 (ji16))) ++ (⟨#[32]⟩ : ByteArray)) ++ t274).size + 1 ≤ 9223372036854775807) = true := decide_eq_true c23
   try have c23b2 : (9223372036854775807 < ((((((t268 ++ (⟨#[44, 32]⟩ : ByteArray)) ++ t269) ++ (⟨#[32]⟩ : ByteArray)) ++ (rdOf ByteArray.empty t270 (ji16))) ++ (⟨#[32]⟩ : ByteArray)) ++ t274).size + 1) = False := eq_false (Nat.not_lt.2 c23)
   (try (have c23n := c23; simp only [ByteArray.size_append, show (⟨#[32]⟩ : ByteArray).size = 1 from rfl, show (⟨#[44, 32]⟩ : ByteArray).size = 2 from rfl] at c23n))
   replace H := bI.mp H
   obtain ⟨t275, A240, H⟩ := H
   (try dsimp only at H)
   have A24 := aM A240; clear A240
   by_cases c25 : (((((((t268 ++ (⟨#[44, 32]⟩ : ByteArray)) ++ t269) ++ (⟨#[32]⟩ : ByteArray)) ++ (rdOf ByteArray.empty t270 (ji16))) ++ (⟨#[32]⟩ : ByteArray)) ++ t274) ++ (⟨#[32]⟩ : ByteArray)).size + t275.size ≤ 9223372036854775807
   rotate_left
   ·rw [if_neg c25] at H
    exact absurd H (by simp)
   rw [if_pos c25] at H
   have c25b0 := eq_true c25
   have c25b1 : decide ((((((((t268 ++ (⟨#[44, 32]⟩ : ByteArray)) ++ t269) ++ (⟨#[32]⟩ : ByteArray)) ++ (rdOf ByteArray.empty t270 (ji16))) ++ (⟨#[32]⟩ : ByteArray)) ++ t274) ++ (⟨#[32]⟩ : ByteArray)).size + t275.size ≤ 9223372036854775807) = true := decide_eq_true c25
   try have c25b2 : (9223372036854775807 < (((((((t268 ++ (⟨#[44, 32]⟩ : ByteArray)) ++ t269) ++ (⟨#[32]⟩ : ByteArray)) ++ (rdOf ByteArray.empty t270 (ji16))) ++ (⟨#[32]⟩ : ByteArray)) ++ t274) ++ (⟨#[32]⟩ : ByteArray)).size + t275.size) = False := eq_false (Nat.not_lt.2 c25)
   (try (have c25n := c25; simp only [ByteArray.size_append, show (⟨#[32]⟩ : ByteArray).size = 1 from rfl, show (⟨#[44, 32]⟩ : ByteArray).size = 2 from rfl] at c25n))
   by_cases c26 : ((((((((t268 ++ (⟨#[44, 32]⟩ : ByteArray)) ++ t269) ++ (⟨#[32]⟩ : ByteArray)) ++ (rdOf ByteArray.empty t270 (ji16))) ++ (⟨#[32]⟩ : ByteArray)) ++ t274) ++ (⟨#[32]⟩ : ByteArray)) ++ t275).size + 1 ≤ 9223372036854775807
   rotate_left
   ·rw [if_neg c26] at H
    exact absurd H (by simp)
   rw [if_pos c26] at H
   have c26b0 := eq_true c26
   have c26b1 : decide (((((((((t268 ++ (⟨#[44, 32]⟩ : ByteArray)) ++ t269) ++ (⟨#[32]⟩ : ByteArray)) ++ (rdOf ByteArray.empty t270 (ji16))) ++ (⟨#[32]⟩ : ByteArray)) ++ t274) ++ (⟨#[32]⟩ : ByteArray)) ++ t275).size + 1 ≤ 9223372036854775807) = true := decide_eq_true c26
   try have c26b2 : (9223372036854775807 < ((((((((t268 ++ (⟨#[44, 32]⟩ : ByteArray)) ++ t269) ++ (⟨#[32]⟩ : ByteArray)) ++ (rdOf ByteArray.empty t270 (ji16))) ++ (⟨#[32]⟩ : ByteArray)) ++ t274) ++ (⟨#[32]⟩ : ByteArray)) ++ t275).size + 1) = False := eq_false (Nat.not_lt.2 c26)
   (try (have c26n := c26; simp only [ByteArray.size_append, show (⟨#[32]⟩ : ByteArray).size = 1 from rfl, show (⟨#[44, 32]⟩ : ByteArray).size = 2 from rfl] at c26n))
   replace H := bI.mp H
   obtain ⟨t276, A270, H⟩ := H
   (try dsimp only at H)
   have A27 := aM A270; clear A270
   by_cases c28 : (((((((((t268 ++ (⟨#[44, 32]⟩ : ByteArray)) ++ t269) ++ (⟨#[32]⟩ : ByteArray)) ++ (rdOf ByteArray.empty t270 (ji16))) ++ (⟨#[32]⟩ : ByteArray)) ++ t274) ++ (⟨#[32]⟩ : ByteArray)) ++ t275) ++ (⟨#[58]⟩ : ByteArray)).size + t276.size ≤ 9223372036854775807
   rotate_left
   ·rw [if_neg c28] at H
    exact absurd H (by simp)
   rw [if_pos c28] at H
   have c28b0 := eq_true c28
   have c28b1 : decide ((((((((((t268 ++ (⟨#[44, 32]⟩ : ByteArray)) ++ t269) ++ (⟨#[32]⟩ : ByteArray)) ++ (rdOf ByteArray.empty t270 (ji16))) ++ (⟨#[32]⟩ : ByteArray)) ++ t274) ++ (⟨#[32]⟩ : ByteArray)) ++ t275) ++ (⟨#[58]⟩ : ByteArray)).size + t276.size ≤ 9223372036854775807) = true := decide_eq_true c28
   try have c28b2 : (9223372036854775807 < (((((((((t268 ++ (⟨#[44, 32]⟩ : ByteArray)) ++ t269) ++ (⟨#[32]⟩ : ByteArray)) ++ (rdOf ByteArray.empty t270 (ji16))) ++ (⟨#[32]⟩ : ByteArray)) ++ t274) ++ (⟨#[32]⟩ : ByteArray)) ++ t275) ++ (⟨#[58]⟩ : ByteArray)).size + t276.size) = False := eq_false (Nat.not_lt.2 c28)
   (try (have c28n := c28; simp only [ByteArray.size_append, show (⟨#[32]⟩ : ByteArray).size = 1 from rfl, show (⟨#[44, 32]⟩ : ByteArray).size = 2 from rfl, show (⟨#[58]⟩ : ByteArray).size = 1 from rfl] at c28n))
   by_cases c29 : ((((((((((t268 ++ (⟨#[44, 32]⟩ : ByteArray)) ++ t269) ++ (⟨#[32]⟩ : ByteArray)) ++ (rdOf ByteArray.empty t270 (ji16))) ++ (⟨#[32]⟩ : ByteArray)) ++ t274) ++ (⟨#[32]⟩ : ByteArray)) ++ t275) ++ (⟨#[58]⟩ : ByteArray)) ++ t276).size + 1 ≤ 9223372036854775807
   rotate_left
   ·rw [if_neg c29] at H
    exact absurd H (by simp)
   rw [if_pos c29] at H
   have c29b0 := eq_true c29
   have c29b1 : decide (((((((((((t268 ++ (⟨#[44, 32]⟩ : ByteArray)) ++ t269) ++ (⟨#[32]⟩ : ByteArray)) ++ (rdOf ByteArray.empty t270 (ji16))) ++ (⟨#[32]⟩ : ByteArray)) ++ t274) ++ (⟨#[32]⟩ : ByteArray)) ++ t275) ++ (⟨#[58]⟩ : ByteArray)) ++ t276).size + 1 ≤ 9223372036854775807) = true := decide_eq_true c29
   try have c29b2 : (9223372036854775807 < ((((((((((t268 ++ (⟨#[44, 32]⟩ : ByteArray)) ++ t269) ++ (⟨#[32]⟩ : ByteArray)) ++ (rdOf ByteArray.empty t270 (ji16))) ++ (⟨#[32]⟩ : ByteArray)) ++ t274) ++ (⟨#[32]⟩ : ByteArray)) ++ t275) ++ (⟨#[58]⟩ : ByteArray)) ++ t276).size + 1) = False := eq_false (Nat.not_lt.2 c29)
   (try (have c29n := c29; simp only [ByteArray.size_append, show (⟨#[32]⟩ : ByteArray).size = 1 from rfl, show (⟨#[44, 32]⟩ : ByteArray).size = 2 from rfl, show (⟨#[58]⟩ : ByteArray).size = 1 from rfl] at c29n))
   replace H := bI.mp H
   obtain ⟨t277, A300, H⟩ := H
   (try dsimp only at H)
   have A30 := aM A300; clear A300
   by_cases c31 : (((((((((((t268 ++ (⟨#[44, 32]⟩ : ByteArray)) ++ t269) ++ (⟨#[32]⟩ : ByteArray)) ++ (rdOf ByteArray.empty t270 (ji16))) ++ (⟨#[32]⟩ : ByteArray)) ++ t274) ++ (⟨#[32]⟩ : ByteArray)) ++ t275) ++ (⟨#[58]⟩ : ByteArray)) ++ t276) ++ (⟨#[58]⟩ : ByteArray)).size + t277.size ≤ 9223372036854775807
   rotate_left
   ·rw [if_neg c31] at H
    exact absurd H (by simp)
   rw [if_pos c31] at H
   have c31b0 := eq_true c31
   have c31b1 : decide ((((((((((((t268 ++ (⟨#[44, 32]⟩ : ByteArray)) ++ t269) ++ (⟨#[32]⟩ : ByteArray)) ++ (rdOf ByteArray.empty t270 (ji16))) ++ (⟨#[32]⟩ : ByteArray)) ++ t274) ++ (⟨#[32]⟩ : ByteArray)) ++ t275) ++ (⟨#[58]⟩ : ByteArray)) ++ t276) ++ (⟨#[58]⟩ : ByteArray)).size + t277.size ≤ 9223372036854775807) = true := decide_eq_true c31
   try have c31b2 : (9223372036854775807 < (((((((((((t268 ++ (⟨#[44, 32]⟩ : ByteArray)) ++ t269) ++ (⟨#[32]⟩ : ByteArray)) ++ (rdOf ByteArray.empty t270 (ji16))) ++ (⟨#[32]⟩ : ByteArray)) ++ t274) ++ (⟨#[32]⟩ : ByteArray)) ++ t275) ++ (⟨#[58]⟩ : ByteArray)) ++ t276) ++ (⟨#[58]⟩ : ByteArray)).size + t277.size) = False := eq_false (Nat.not_lt.2 c31)
   (try (have c31n := c31; simp only [ByteArray.size_append, show (⟨#[32]⟩ : ByteArray).size = 1 from rfl, show (⟨#[44, 32]⟩ : ByteArray).size = 2 from rfl, show (⟨#[58]⟩ : ByteArray).size = 1 from rfl] at c31n))
   by_cases c32 : ((((((((((((t268 ++ (⟨#[44, 32]⟩ : ByteArray)) ++ t269) ++ (⟨#[32]⟩ : ByteArray)) ++ (rdOf ByteArray.empty t270 (ji16))) ++ (⟨#[32]⟩ : ByteArray)) ++ t274) ++ (⟨#[32]⟩ : ByteArray)) ++ t275) ++ (⟨#[58]⟩ : ByteArray)) ++ t276) ++ (⟨#[58]⟩ : ByteArray)) ++ t277).size + 1 ≤ 9223372036854775807
   rotate_left
   ·rw [if_neg c32] at H
    exact absurd H (by simp)
   rw [if_pos c32] at H
   have c32b0 := eq_true c32
   have c32b1 : decide (((((((((((((t268 ++ (⟨#[44, 32]⟩ : ByteArray)) ++ t269) ++ (⟨#[32]⟩ : ByteArray)) ++ (rdOf ByteArray.empty t270 (ji16))) ++ (⟨#[32]⟩ : ByteArray)) ++ t274) ++ (⟨#[32]⟩ : ByteArray)) ++ t275) ++ (⟨#[58]⟩ : ByteArray)) ++ t276) ++ (⟨#[58]⟩ : ByteArray)) ++ t277).size + 1 ≤ 9223372036854775807) = true := decide_eq_true c32
   try have c32b2 : (9223372036854775807 < ((((((((((((t268 ++ (⟨#[44, 32]⟩ : ByteArray)) ++ t269) ++ (⟨#[32]⟩ : ByteArray)) ++ (rdOf ByteArray.empty t270 (ji16))) ++ (⟨#[32]⟩ : ByteArray)) ++ t274) ++ (⟨#[32]⟩ : ByteArray)) ++ t275) ++ (⟨#[58]⟩ : ByteArray)) ++ t276) ++ (⟨#[58]⟩ : ByteArray)) ++ t277).size + 1) = False := eq_false (Nat.not_lt.2 c32)
   (try (have c32n := c32; simp only [ByteArray.size_append, show (⟨#[32]⟩ : ByteArray).size = 1 from rfl, show (⟨#[44, 32]⟩ : ByteArray).size = 2 from rfl, show (⟨#[58]⟩ : ByteArray).size = 1 from rfl] at c32n))
   by_cases c33 : (((((((((((((t268 ++ (⟨#[44, 32]⟩ : ByteArray)) ++ t269) ++ (⟨#[32]⟩ : ByteArray)) ++ (rdOf ByteArray.empty t270 (ji16))) ++ (⟨#[32]⟩ : ByteArray)) ++ t274) ++ (⟨#[32]⟩ : ByteArray)) ++ t275) ++ (⟨#[58]⟩ : ByteArray)) ++ t276) ++ (⟨#[58]⟩ : ByteArray)) ++ t277) ++ (⟨#[32]⟩ : ByteArray)).size + x3_3.size ≤ 9223372036854775807
   rotate_left
   ·rw [if_neg c33] at H
    exact absurd H (by simp)
   rw [if_pos c33] at H
   have c33b0 := eq_true c33
   have c33b1 : decide ((((((((((((((t268 ++ (⟨#[44, 32]⟩ : ByteArray)) ++ t269) ++ (⟨#[32]⟩ : ByteArray)) ++ (rdOf ByteArray.empty t270 (ji16))) ++ (⟨#[32]⟩ : ByteArray)) ++ t274) ++ (⟨#[32]⟩ : ByteArray)) ++ t275) ++ (⟨#[58]⟩ : ByteArray)) ++ t276) ++ (⟨#[58]⟩ : ByteArray)) ++ t277) ++ (⟨#[32]⟩ : ByteArray)).size + x3_3.size ≤ 9223372036854775807) = true := decide_eq_true c33
   try have c33b2 : (9223372036854775807 < (((((((((((((t268 ++ (⟨#[44, 32]⟩ : ByteArray)) ++ t269) ++ (⟨#[32]⟩ : ByteArray)) ++ (rdOf ByteArray.empty t270 (ji16))) ++ (⟨#[32]⟩ : ByteArray)) ++ t274) ++ (⟨#[32]⟩ : ByteArray)) ++ t275) ++ (⟨#[58]⟩ : ByteArray)) ++ t276) ++ (⟨#[58]⟩ : ByteArray)) ++ t277) ++ (⟨#[32]⟩ : ByteArray)).size + x3_3.size) = False := eq_false (Nat.not_lt.2 c33)
   (try (have c33n := c33; simp only [ByteArray.size_append, show (⟨#[32]⟩ : ByteArray).size = 1 from rfl, show (⟨#[44, 32]⟩ : ByteArray).size = 2 from rfl, show (⟨#[58]⟩ : ByteArray).size = 1 from rfl] at c33n))
   replace H := bI.mp H
   obtain ⟨t278, A340, H⟩ := H
   (try dsimp only at H)
   have A34 := aM A340; clear A340
   by_cases c35 : ((((((((((((((t268 ++ (⟨#[44, 32]⟩ : ByteArray)) ++ t269) ++ (⟨#[32]⟩ : ByteArray)) ++ (rdOf ByteArray.empty t270 (ji16))) ++ (⟨#[32]⟩ : ByteArray)) ++ t274) ++ (⟨#[32]⟩ : ByteArray)) ++ t275) ++ (⟨#[58]⟩ : ByteArray)) ++ t276) ++ (⟨#[58]⟩ : ByteArray)) ++ t277) ++ (⟨#[32]⟩ : ByteArray)) ++ x3_3).size + t278.size ≤ 9223372036854775807
   rotate_left
   ·rw [if_neg c35] at H
    exact absurd H (by simp)
   rw [if_pos c35] at H
   have c35b0 := eq_true c35
   have c35b1 : decide (((((((((((((((t268 ++ (⟨#[44, 32]⟩ : ByteArray)) ++ t269) ++ (⟨#[32]⟩ : ByteArray)) ++ (rdOf ByteArray.empty t270 (ji16))) ++ (⟨#[32]⟩ : ByteArray)) ++ t274) ++ (⟨#[32]⟩ : ByteArray)) ++ t275) ++ (⟨#[58]⟩ : ByteArray)) ++ t276) ++ (⟨#[58]⟩ : ByteArray)) ++ t277) ++ (⟨#[32]⟩ : ByteArray)) ++ x3_3).size + t278.size ≤ 9223372036854775807) = true := decide_eq_true c35
   try have c35b2 : (9223372036854775807 < ((((((((((((((t268 ++ (⟨#[44, 32]⟩ : ByteArray)) ++ t269) ++ (⟨#[32]⟩ : ByteArray)) ++ (rdOf ByteArray.empty t270 (ji16))) ++ (⟨#[32]⟩ : ByteArray)) ++ t274) ++ (⟨#[32]⟩ : ByteArray)) ++ t275) ++ (⟨#[58]⟩ : ByteArray)) ++ t276) ++ (⟨#[58]⟩ : ByteArray)) ++ t277) ++ (⟨#[32]⟩ : ByteArray)) ++ x3_3).size + t278.size) = False := eq_false (Nat.not_lt.2 c35)
   (try (have c35n := c35; simp only [ByteArray.size_append, show (⟨#[32]⟩ : ByteArray).size = 1 from rfl, show (⟨#[44, 32]⟩ : ByteArray).size = 2 from rfl, show (⟨#[58]⟩ : ByteArray).size = 1 from rfl] at c35n))
   replace H := bI.mp H
   obtain ⟨t279, A360, H⟩ := H
   (try dsimp only at H)
   have A36 := aM A360; clear A360
   by_cases c37 : (((((((((((((((t268 ++ (⟨#[44, 32]⟩ : ByteArray)) ++ t269) ++ (⟨#[32]⟩ : ByteArray)) ++ (rdOf ByteArray.empty t270 (ji16))) ++ (⟨#[32]⟩ : ByteArray)) ++ t274) ++ (⟨#[32]⟩ : ByteArray)) ++ t275) ++ (⟨#[58]⟩ : ByteArray)) ++ t276) ++ (⟨#[58]⟩ : ByteArray)) ++ t277) ++ (⟨#[32]⟩ : ByteArray)) ++ x3_3) ++ t278).size + t279.size ≤ 9223372036854775807
   rotate_left
   ·rw [if_neg c37] at H
    exact absurd H (by simp)
   rw [if_pos c37] at H
   have c37b0 := eq_true c37
   have c37b1 : decide ((((((((((((((((t268 ++ (⟨#[44, 32]⟩ : ByteArray)) ++ t269) ++ (⟨#[32]⟩ : ByteArray)) ++ (rdOf ByteArray.empty t270 (ji16))) ++ (⟨#[32]⟩ : ByteArray)) ++ t274) ++ (⟨#[32]⟩ : ByteArray)) ++ t275) ++ (⟨#[58]⟩ : ByteArray)) ++ t276) ++ (⟨#[58]⟩ : ByteArray)) ++ t277) ++ (⟨#[32]⟩ : ByteArray)) ++ x3_3) ++ t278).size + t279.size ≤ 9223372036854775807) = true := decide_eq_true c37
   try have c37b2 : (9223372036854775807 < (((((((((((((((t268 ++ (⟨#[44, 32]⟩ : ByteArray)) ++ t269) ++ (⟨#[32]⟩ : ByteArray)) ++ (rdOf ByteArray.empty t270 (ji16))) ++ (⟨#[32]⟩ : ByteArray)) ++ t274) ++ (⟨#[32]⟩ : ByteArray)) ++ t275) ++ (⟨#[58]⟩ : ByteArray)) ++ t276) ++ (⟨#[58]⟩ : ByteArray)) ++ t277) ++ (⟨#[32]⟩ : ByteArray)) ++ x3_3) ++ t278).size + t279.size) = False := eq_false (Nat.not_lt.2 c37)
   (try (have c37n := c37; simp only [ByteArray.size_append, show (⟨#[32]⟩ : ByteArray).size = 1 from rfl, show (⟨#[44, 32]⟩ : ByteArray).size = 2 from rfl, show (⟨#[58]⟩ : ByteArray).size = 1 from rfl] at c37n))
   obtain rfl := Option.some.inj H
   try go_wp2
   have n0_ := aM (Bh BK266.out); have n1_ := aM (Bd HB.out); clear BK266; clear HB; have BK266 := n0_; have HB := n1_; clear n0_ n1_
   refine start_ (n := 47) (S := fun w' => w'.cell? ⟨gb266, 0, none⟩ = some (.int .i64 a0_0) ∧ w'.cell? ⟨gb266, 1, none⟩ = some (.int .i64 a0_1) ∧ w'.cell? ⟨gb266, 2, none⟩ = some (.int .i64 a0_2) ∧ w'.cell? ⟨gb266, 3, none⟩ = some (.int .i64 a0_3) ∧ w'.cell? ⟨gb266, 4, none⟩ = some (.int .i64 a0_4) ∧ w'.cell? ⟨gb266, 5, none⟩ = some (.int .i64 a0_5) ∧ w'.cell? ⟨gb266, 6, none⟩ = some (.int .i64 a0_6)) (ds := []) #[X,X,X,X,X,X,X,X,X,X,X,X,X,X,X,X,X,X,X,X,X,X,X,X,X,X,X,X,X,X,X,X,X,X,X,X,X,X,X,X,X,X,X,X,X,X,X] (by kernel_rfl) rfl rfl (c7_ BK266.out) (fun hHeld => ?_); refine with_tabW spec_FormatDate.tab8 spec_FormatDate.bits8 (fun HT_ HW_ => ?_)
   generalize wc.drew = w38 at BK266 HB hHeld ⊢
   refine pure_ (i := 3) (N := some 17) (v := ?_) (a' := ?_) (mb 47 8) rfl rfl (any_of HT_.out (by kernel_rfl)) (fun _ _ _ h => h) (Or.inl ⟨by rfl, ?_⟩) ?_ ?_
   rotate_left; (·intro w'; go_simp; (first | with_reducible rfl | (refine if_neg ?_; omega))); rotate_left; (·simp only [Act.put, sA, sZ, sS, i64_w, i32_w]; rfl)
   refine pure_ (i := 9) (N := some 23) (v := ?_) (a' := ?_) (mb 47 520) rfl rfl (any_of HT_.out (by kernel_rfl)) (fun _ _ _ h => h) (Or.inl ⟨by rfl, ?_⟩) ?_ ?_
   rotate_left; (·intro w'; go_simp; (first | with_reducible rfl | (refine if_neg ?_; omega))); rotate_left; (·simp only [Act.put, sA, sZ, sS, i64_w, i32_w]; rfl)
   refine pure_ (i := 16) (N := some 30) (v := ?_) (a' := ?_) (mb 47 66056) rfl rfl (any_of HT_.out (by kernel_rfl)) (fun _ _ _ h => h) (Or.inl ⟨by rfl, ?_⟩) ?_ ?_
   rotate_left; (·intro w'; go_simp; (first | with_reducible rfl | (refine if_neg ?_; omega))); rotate_left; (·simp only [Act.put, sA, sZ, sS, i64_w, i32_w]; rfl)
   refine pure_ (i := 21) (N := some 35) (v := ?_) (a' := ?_) (mb 47 2163208) rfl rfl (any_of HT_.out (by kernel_rfl)) (fun _ _ _ h => h) (Or.inl ⟨by rfl, ?_⟩) ?_ ?_
   rotate_left; (·intro w'; go_simp; (first | with_reducible rfl | (refine if_neg ?_; omega))); rotate_left; (·simp only [Act.put, sA, sZ, sS, i64_w, i32_w]; rfl)
   refine pure_ (i := 26) (N := some 40) (v := ?_) (a' := ?_) (mb 47 69272072) rfl rfl (any_of HT_.out (by kernel_rfl)) (fun _ _ _ h => h) (Or.inl ⟨by rfl, ?_⟩) ?_ ?_
   rotate_left; (·intro w'; go_simp; (first | with_reducible rfl | (refine if_neg ?_; omega))); rotate_left; (·simp only [Act.put, sA, sZ, sS, i64_w, i32_w]; rfl)
   refine pure_ (i := 31) (N := some 45) (v := ?_) (a' := ?_) (mb 47 2216755720) rfl rfl (any_of HT_.out (by kernel_rfl)) (fun _ _ _ h => h) (Or.inl ⟨by rfl, ?_⟩) ?_ ?_
   rotate_left; (·intro w'; go_simp; (first | with_reducible rfl | (refine if_neg ?_; omega))); rotate_left; (·simp only [Act.put, sA, sZ, sS, i64_w, i32_w]; rfl)
   refine pure_ (i := 36) (N := some 50) (v := ?_) (a' := ?_) (mb 47 70936232456) rfl rfl (any_of HT_.out (by kernel_rfl)) (fun _ _ _ h => h) (Or.inl ⟨by rfl, ?_⟩) ?_ ?_
   rotate_left; (·intro w'; go_simp; (first | with_reducible rfl | (refine if_neg ?_; omega))); rotate_left; (·simp only [Act.put, sA, sZ, sS, i64_w, i32_w]; rfl)
   refine pure_ (i := 38) (N := some 52) (v := ?_) (a' := ?_) (mb 47 345814139400) rfl rfl (any_of HT_.out (by kernel_rfl)) (fun _ _ _ h => h) (Or.inl ⟨by rfl, ?_⟩) ?_ ?_
   rotate_left; (·intro w'; go_simp; (first | with_reducible rfl | (refine if_neg ?_; omega))); rotate_left; (·simp only [Act.put, sA, sZ, sS, i64_w, i32_w]; rfl)
   refine pure_ (i := 39) (N := some 53) (v := ?_) (a' := ?_) (mb 47 895569953288) rfl rfl (any_of HT_.out (by kernel_rfl)) (fun _ _ _ h => h) (Or.inl ⟨by rfl, ?_⟩) ?_ ?_
   rotate_left; (·intro w'; go_simp; (first | with_reducible rfl | (refine if_neg ?_; omega))); rotate_left; (·simp only [Act.put, sA, sZ, sS, i64_w, i32_w]; rfl)
   refine pure_ (i := 42) (N := some 56) (v := ?_) (a' := ?_) (mb 47 5293616464392) rfl rfl (any_of HT_.out (by kernel_rfl)) (fun _ _ _ h => h) (Or.inl ⟨by rfl, ?_⟩) ?_ ?_
   rotate_left; (·intro w'; go_simp; (first | with_reducible rfl | (refine if_neg ?_; omega))); rotate_left; (·simp only [Act.put, sA, sZ, sS, i64_w, i32_w]; rfl)
   refine pure_ (i := 43) (N := some 57) (v := ?_) (a' := ?_) (mb 47 14089709486600) rfl rfl (any_of HT_.out (by kernel_rfl)) (fun _ _ _ h => h) (Or.inl ⟨by rfl, ?_⟩) ?_ ?_
   rotate_left; (·intro w'; go_simp; (first | with_reducible rfl | (refine if_neg ?_; omega))); rotate_left; (·simp only [Act.put, sA, sZ, sS, i64_w, i32_w]; rfl)
   refine take_ (i := 0) (N := some 14) (v := ?_) (a' := ?_) (mb 47 14089709486601) rfl rfl (take_ofW HT_.out HW_.out (by kernel_rfl)) (fun _ _ _ h => h) (Or.inl ⟨by rfl, ?_⟩) hHeld ?_ ?_
   rotate_left; (·rintro w' ⟨s0, s1, s2, s3, s4, s5, s6⟩; go_simp; (first | with_reducible rfl | (refine if_neg ?_; omega))); rotate_left; (·simp only [Act.put, sA, sZ, sS, i64_w, i32_w]; rfl)
   refine take_ (i := 4) (N := some 18) (v := ?_) (a' := ?_) (mb 47 14089709486617) rfl rfl (take_ofW HT_.out HW_.out (by kernel_rfl)) (fun _ _ _ h => h) (Or.inl ⟨by rfl, ?_⟩) hHeld ?_ ?_
   rotate_left; (·rintro w' ⟨s0, s1, s2, s3, s4, s5, s6⟩; go_simp; (first | with_reducible rfl | (refine if_neg ?_; omega))); rotate_left; (·simp only [Act.put, sA, sZ, sS, i64_w, i32_w]; rfl)
   refine take_ (i := 10) (N := some 24) (v := ?_) (a' := ?_) (mb 47 14089709487641) rfl rfl (take_ofW HT_.out HW_.out (by kernel_rfl)) (fun _ _ _ h => h) (Or.inl ⟨by rfl, ?_⟩) hHeld ?_ ?_
   rotate_left; (·rintro w' ⟨s0, s1, s2, s3, s4, s5, s6⟩; go_simp; (first | with_reducible rfl | (refine if_neg ?_; omega))); rotate_left; (·simp only [Act.put, sA, sZ, sS, i64_w, i32_w]; rfl)
   refine pure_ (i := 11) (N := some 25) (v := ?_) (a' := ?_) (mb 47 14089709489689) rfl rfl (any_of HT_.out (by kernel_rfl)) (fun _ _ _ h => h) (Or.inl ⟨by rfl, ?_⟩) ?_ ?_
   rotate_left; (·intro w'; go_simp; (first | with_reducible rfl | (refine if_neg ?_; omega))); rotate_left; (·simp only [Act.put, sA, sZ, sS, i64_w, i32_w]; rfl)
   refine take_ (i := 17) (N := some 31) (v := ?_) (a' := ?_) (mb 47 14089709620761) rfl rfl (take_ofW HT_.out HW_.out (by kernel_rfl)) (fun _ _ _ h => h) (Or.inl ⟨by rfl, ?_⟩) hHeld ?_ ?_
   rotate_left; (·rintro w' ⟨s0, s1, s2, s3, s4, s5, s6⟩; go_simp; (first | with_reducible rfl | (refine if_neg ?_; omega))); rotate_left; (·simp only [Act.put, sA, sZ, sS, i64_w, i32_w]; rfl)
   refine take_ (i := 22) (N := some 36) (v := ?_) (a' := ?_) (mb 47 14089713815065) rfl rfl (take_ofW HT_.out HW_.out (by kernel_rfl)) (fun _ _ _ h => h) (Or.inl ⟨by rfl, ?_⟩) hHeld ?_ ?_
   rotate_left; (·rintro w' ⟨s0, s1, s2, s3, s4, s5, s6⟩; go_simp; (first | with_reducible rfl | (refine if_neg ?_; omega))); rotate_left; (·simp only [Act.put, sA, sZ, sS, i64_w, i32_w]; rfl)
   refine take_ (i := 27) (N := some 41) (v := ?_) (a' := ?_) (mb 47 14089848032793) rfl rfl (take_ofW HT_.out HW_.out (by kernel_rfl)) (fun _ _ _ h => h) (Or.inl ⟨by rfl, ?_⟩) hHeld ?_ ?_
   rotate_left; (·rintro w' ⟨s0, s1, s2, s3, s4, s5, s6⟩; go_simp; (first | with_reducible rfl | (refine if_neg ?_; omega))); rotate_left; (·simp only [Act.put, sA, sZ, sS, i64_w, i32_w]; rfl)
   refine take_ (i := 32) (N := some 46) (v := ?_) (a' := ?_) (mb 47 14094143000089) rfl rfl (take_ofW HT_.out HW_.out (by kernel_rfl)) (fun _ _ _ h => h) (Or.inl ⟨by rfl, ?_⟩) hHeld ?_ ?_
   rotate_left; (·rintro w' ⟨s0, s1, s2, s3, s4, s5, s6⟩; go_simp; (first | with_reducible rfl | (refine if_neg ?_; omega))); rotate_left; (·simp only [Act.put, sA, sZ, sS, i64_w, i32_w]; rfl)
   refine one_ (i := 1) (N := some 15) (mb 47 14094143000091) rfl rfl (one_of HT_.out (by kernel_rfl)) (by decide) (fun K hK => ?_)
   refine goes_ Tryd.func23 (by kernel_rfl) rfl #[.agg #[.int .i64 a0_0, .int .i64 a0_1, .int .i64 a0_2, .int .i64 a0_3, .int .i64 a0_4, .int .i64 a0_5, .int .i64 a0_6]] (by rfl) rfl rfl (by (try simp only [mT, mC, mN]) <;> rfl) ?_
   with_reducible refine (spec_WeekdayOf.calls kj3 a0_0 a0_1 a0_2 a0_3 a0_4 a0_5 a0_6 t268 _ A10.out).mono ?_
   rintro e w39 ⟨rfl, hb⟩
   refine ⟨_, rfl, ?_⟩
   have n0_ := aM (blk_below (by (with_reducible repeat (first | refine Bf ?_ _ | refine Bh ?_ | refine Bg ?_ _)); exact BK266.out) hb); have n1_ := aM (below_step (by repeat (with_reducible first | exact HB.out | apply Be | apply Bc | apply Bd | refine Bs ?_ GE266.out)) hb); clear BK266; clear HB; have BK266 := n0_; have HB := n1_; clear n0_ n1_
   (try clear hb)
   (try clear hb2)
   (try clear hk)
   (try clear hi)
   refine hK.out _ _ (c7_ BK266.out) (fun hHeld => ?_)
   clear hK K
   refine norm_ (a' := ?_) ?_ ?_
   rotate_left
   ·show Act.put _ (some 15) _ = _
    simp only [Act.put, sA, sZ, sS, i64_w, i32_w]
    rfl
   refine pure_ (i := 2) (N := some 16) (v := ?_) (a' := ?_) (mb 47 14094143000095) rfl rfl (any_of HT_.out (by kernel_rfl)) (fun _ _ _ h => h) (Or.inl ⟨by rfl, ?_⟩) ?_ ?_
   rotate_left; (·intro w'; go_simp; (first | with_reducible rfl | (refine if_neg ?_; omega))); rotate_left; (·simp only [Act.put, sA, sZ, sS, i64_w, i32_w]; rfl)
   refine one_ (i := 5) (N := some 19) (mb 47 14094143000127) rfl rfl (one_of HT_.out (by kernel_rfl)) (by decide) (fun K hK => ?_)
   refine goes_ Tryd.func24 (by kernel_rfl) rfl #[.int .i64 a0_2] (by rfl) rfl rfl (by (try simp only [mT, mC, mN]) <;> rfl) ?_
   with_reducible refine (spec_l13Dec.calls kj3 a0_2 t269 _ A12.out).mono ?_
   rintro e w40 ⟨rfl, hb⟩
   refine ⟨_, rfl, ?_⟩
   have n0_ := aM (blk_below (by (with_reducible repeat (first | refine Bf ?_ _ | refine Bh ?_ | refine Bg ?_ _)); exact BK266.out) hb); have n1_ := aM (below_step (by repeat (with_reducible first | exact HB.out | apply Be | apply Bc | apply Bd | refine Bs ?_ GE266.out)) hb); clear BK266; clear HB; have BK266 := n0_; have HB := n1_; clear n0_ n1_
   (try clear hb)
   (try clear hb2)
   (try clear hk)
   (try clear hi)
   refine hK.out _ _ (c7_ BK266.out) (fun hHeld => ?_)
   clear hK K
   refine norm_ (a' := ?_) ?_ ?_
   rotate_left
   ·show Act.put _ (some 19) _ = _
    simp only [Act.put, sA, sZ, sS, i64_w, i32_w]
    rfl
   refine pure_ (i := 6) (N := some 20) (v := ?_) (a' := ?_) (mb 47 14094143000191) rfl rfl (any_of HT_.out (by kernel_rfl)) (fun _ _ _ h => h) (Or.inl ⟨by rfl, ?_⟩) ?_ ?_
   rotate_left; (·intro w'; go_simp; (first | with_reducible rfl | (refine if_neg ?_; omega))); rotate_left; (·simp only [Act.put, sA, sZ, sS, i64_w, i32_w]; rfl)
   refine pure_ (i := 7) (N := some 21) (v := ?_) (a' := ?_) (mb 47 14094143000319) rfl rfl (any_of HT_.out (by kernel_rfl)) (fun _ _ _ h => h) (Or.inl ⟨by rfl, ?_⟩) ?_ ?_
   rotate_left; (·intro w'; go_simp; (first | with_reducible rfl | (refine if_neg ?_; omega))); rotate_left; (·simp only [Act.put, sA, sZ, sS, i64_w, i32_w]; rfl)
   refine one_ (i := 8) (N := some 22) (mb 47 14094143000575) rfl rfl (one_of HT_.out (by kernel_rfl)) (by decide) (fun K hK => ?_)
   refine goes_ Tryd.func25 (by kernel_rfl) rfl #[] (by rfl) rfl rfl (by (try simp only [mT, mC, mN]) <;> rfl) ?_
   with_reducible refine (spec_l4Months.calls  t270 _ A15.out).mono ?_
   rintro e w41 ⟨v271, rfl, ho0, hb⟩
   refine ⟨_, rfl, ?_⟩
   have n0_ := aM (Kd.R_lower ho0 (below_size (by repeat (with_reducible first | exact HB.out | apply Be | apply Bc | apply Bd | refine Bs ?_ GE266.out)))); have n1_ := aM (blk_below (by (with_reducible repeat (first | refine Bf ?_ _ | refine Bh ?_ | refine Bg ?_ _)); exact BK266.out) hb); have n2_ := aM (below_step (by repeat (with_reducible first | exact HB.out | apply Be | apply Bc | apply Bd | refine Bs ?_ GE266.out)) hb); clear BK266; clear HB; have HO272 := n0_; have BK266 := n1_; have HB := n2_; clear n0_ n1_ n2_
   (try clear hb)
   (try clear hb2)
   (try clear hk)
   (try clear hi)
   (try clear ho0)
   obtain ⟨Ao42, co42, eo42⟩ := Kd.R_slice HO272.out
   (first | subst eo42 | (injection eo42 with f1_ f2_ f3_; have f4_ := f1_.symm; have f5_ := f3_.symm; clear f1_ f2_ f3_; subst f4_; subst f5_))
   have p273 : 0 ≤ ((ji16) : Int) := of_decide_eq_true (by first | (with_reducible assumption) | assumption)
   have q273 : (ji16) < (t270.length : Int) := of_decide_eq_true (by first | (with_reducible assumption) | assumption)
   (try (obtain ⟨Ay_, cy_, ey_⟩ := Kd.R_slice HO272.out; subst ey_))
   obtain ⟨ad273, e273, hx273_0⟩ := Kd.at_string (Kd.R_reads' HO272.out).2.2 (ji16) p273 q273
   cases e273
   replace p273 := eq_true p273; replace q273 := eq_true q273
   refine hK.out _ _ (c7_ BK266.out) (fun hHeld0_ => ?_)
   clear hK K
   refine more_ (S' := fun w' => w'.cell? ⟨gb266, 0, none⟩ = some (.int .i64 a0_0) ∧ w'.cell? ⟨gb266, 1, none⟩ = some (.int .i64 a0_1) ∧ w'.cell? ⟨gb266, 2, none⟩ = some (.int .i64 a0_2) ∧ w'.cell? ⟨gb266, 3, none⟩ = some (.int .i64 a0_3) ∧ w'.cell? ⟨gb266, 4, none⟩ = some (.int .i64 a0_4) ∧ w'.cell? ⟨gb266, 5, none⟩ = some (.int .i64 a0_5) ∧ w'.cell? ⟨gb266, 6, none⟩ = some (.int .i64 a0_6) ∧ w'.cell? (ad273.add ((ji16)).toNat) = some (.string (rdOf ByteArray.empty t270 (ji16)))) (fun _ h_ => ⟨h_.1, h_.2.1, h_.2.2.1, h_.2.2.2.1, h_.2.2.2.2.1, h_.2.2.2.2.2.1, h_.2.2.2.2.2.2.1⟩) _ _ _ _ ⟨(Ba BK266.out 0).trans rfl, (Ba BK266.out 1).trans rfl, (Ba BK266.out 2).trans rfl, (Ba BK266.out 3).trans rfl, (Ba BK266.out 4).trans rfl, (Ba BK266.out 5).trans rfl, (Ba BK266.out 6).trans rfl, hx273_0⟩ (fun hHeld => ?_)
   clear hHeld0_
   refine norm_ (a' := ?_) ?_ ?_
   rotate_left
   ·show Act.put _ (some 22) _ = _
    simp only [Act.put, sA, sZ, sS, i64_w, i32_w]
    rfl
   refine pure_ (i := 12) (N := some 26) (v := ?_) (a' := ?_) (mb 47 14094143004671) rfl rfl (any_of HT_.out (by kernel_rfl)) (fun _ _ _ h => h) (Or.inl ⟨by rfl, ?_⟩) ?_ ?_
   rotate_left; (·intro w'; go_simp; (first | with_reducible rfl | (refine if_neg ?_; omega))); rotate_left; (·simp only [Act.put, sA, sZ, sS, i64_w, i32_w]; rfl)
   refine take_ (i := 13) (N := some 27) (v := ?_) (a' := ?_) (mb 47 14094143012863) rfl rfl (take_ofW HT_.out HW_.out (by kernel_rfl)) (fun _ _ _ h => h) (Or.inl ⟨by rfl, ?_⟩) hHeld ?_ ?_
   rotate_left; (·rintro w' ⟨s0, s1, s2, s3, s4, s5, s6, s7⟩; go_simp; (first | with_reducible rfl | (refine if_neg ?_; omega))); rotate_left; (·simp only [Act.put, sA, sZ, sS, i64_w, i32_w]; rfl)
   refine pure_ (i := 14) (N := some 28) (v := ?_) (a' := ?_) (mb 47 14094143029247) rfl rfl (any_of HT_.out (by kernel_rfl)) (fun _ _ _ h => h) (Or.inl ⟨by rfl, ?_⟩) ?_ ?_
   rotate_left; (·intro w'; go_simp; (first | with_reducible rfl | (refine if_neg ?_; omega))); rotate_left; (·simp only [Act.put, sA, sZ, sS, i64_w, i32_w]; rfl)
   refine pure_ (i := 15) (N := some 29) (v := ?_) (a' := ?_) (mb 47 14094143062015) rfl rfl (any_of HT_.out (by kernel_rfl)) (fun _ _ _ h => h) (Or.inl ⟨by rfl, ?_⟩) ?_ ?_
   rotate_left; (·intro w'; go_simp; (first | with_reducible rfl | (refine if_neg ?_; omega))); rotate_left; (·simp only [Act.put, sA, sZ, sS, i64_w, i32_w]; rfl)
   refine one_ (i := 18) (N := some 32) (mb 47 14094143324159) rfl rfl (one_of HT_.out (by kernel_rfl)) (by decide) (fun K hK => ?_)
   refine goes_ Tryd.func24 (by kernel_rfl) rfl #[.int .i64 a0_0] (by rfl) rfl rfl (by (try simp only [mT, mC, mN]) <;> rfl) ?_
   with_reducible refine (spec_l13Dec.calls kj3 a0_0 t274 _ A21.out).mono ?_
   rintro e w43 ⟨rfl, hb⟩
   have HS7_ := (hb.cell (World.block_lt_of_cell? _ _ (hHeld.2.2.2.2.2.2.2))).trans (hHeld.2.2.2.2.2.2.2)
   refine ⟨_, rfl, ?_⟩
   have n0_ := aM (Kd.R_below (by (with_reducible repeat (first | apply Kd.R_alloc | apply Kd.R_drewN | apply Kd.R_drew)); exact HO272.out) hb); have n1_ := aM (blk_below (by (with_reducible repeat (first | refine Bf ?_ _ | refine Bh ?_ | refine Bg ?_ _)); exact BK266.out) hb); have n2_ := aM (below_step (by repeat (with_reducible first | exact HB.out | apply Be | apply Bc | apply Bd | refine Bs ?_ GE266.out)) hb); clear HO272; clear BK266; clear HB; have HO272 := n0_; have BK266 := n1_; have HB := n2_; clear n0_ n1_ n2_
   (try clear hb)
   (try clear hb2)
   (try clear hk)
   (try clear hi)
   refine hK.out _ _ ⟨(Ba BK266.out 0).trans rfl, (Ba BK266.out 1).trans rfl, (Ba BK266.out 2).trans rfl, (Ba BK266.out 3).trans rfl, (Ba BK266.out 4).trans rfl, (Ba BK266.out 5).trans rfl, (Ba BK266.out 6).trans rfl, HS7_⟩ (fun hHeld => ?_)
   clear hK K
   refine norm_ (a' := ?_) ?_ ?_
   rotate_left
   ·show Act.put _ (some 32) _ = _
    simp only [Act.put, sA, sZ, sS, i64_w, i32_w]
    rfl
   refine pure_ (i := 19) (N := some 33) (v := ?_) (a' := ?_) (mb 47 14094143848447) rfl rfl (any_of HT_.out (by kernel_rfl)) (fun _ _ _ h => h) (Or.inl ⟨by rfl, ?_⟩) ?_ ?_
   rotate_left; (·intro w'; go_simp; (first | with_reducible rfl | (refine if_neg ?_; omega))); rotate_left; (·simp only [Act.put, sA, sZ, sS, i64_w, i32_w]; rfl)
   refine pure_ (i := 20) (N := some 34) (v := ?_) (a' := ?_) (mb 47 14094144897023) rfl rfl (any_of HT_.out (by kernel_rfl)) (fun _ _ _ h => h) (Or.inl ⟨by rfl, ?_⟩) ?_ ?_
   rotate_left; (·intro w'; go_simp; (first | with_reducible rfl | (refine if_neg ?_; omega))); rotate_left; (·simp only [Act.put, sA, sZ, sS, i64_w, i32_w]; rfl)
   refine one_ (i := 23) (N := some 37) (mb 47 14094153285631) rfl rfl (one_of HT_.out (by kernel_rfl)) (by decide) (fun K hK => ?_)
   refine goes_ Tryd.func26 (by kernel_rfl) rfl #[.int .i64 a0_3] (by rfl) rfl rfl (by (try simp only [mT, mC, mN]) <;> rfl) ?_
   with_reducible refine (spec_l4Two.calls kj3 a0_3 t275 _ A24.out).mono ?_
   rintro e w44 ⟨rfl, hb⟩
   have HS7_ := (hb.cell (World.block_lt_of_cell? _ _ (hHeld.2.2.2.2.2.2.2))).trans (hHeld.2.2.2.2.2.2.2)
   refine ⟨_, rfl, ?_⟩
   have n0_ := aM (Kd.R_below (by (with_reducible repeat (first | apply Kd.R_alloc | apply Kd.R_drewN | apply Kd.R_drew)); exact HO272.out) hb); have n1_ := aM (blk_below (by (with_reducible repeat (first | refine Bf ?_ _ | refine Bh ?_ | refine Bg ?_ _)); exact BK266.out) hb); have n2_ := aM (below_step (by repeat (with_reducible first | exact HB.out | apply Be | apply Bc | apply Bd | refine Bs ?_ GE266.out)) hb); clear HO272; clear BK266; clear HB; have HO272 := n0_; have BK266 := n1_; have HB := n2_; clear n0_ n1_ n2_
   (try clear hb)
   (try clear hb2)
   (try clear hk)
   (try clear hi)
   refine hK.out _ _ ⟨(Ba BK266.out 0).trans rfl, (Ba BK266.out 1).trans rfl, (Ba BK266.out 2).trans rfl, (Ba BK266.out 3).trans rfl, (Ba BK266.out 4).trans rfl, (Ba BK266.out 5).trans rfl, (Ba BK266.out 6).trans rfl, HS7_⟩ (fun hHeld => ?_)
   clear hK K
   refine norm_ (a' := ?_) ?_ ?_
   rotate_left
   ·show Act.put _ (some 37) _ = _
    simp only [Act.put, sA, sZ, sS, i64_w, i32_w]
    rfl
   refine pure_ (i := 24) (N := some 38) (v := ?_) (a' := ?_) (mb 47 14094170062847) rfl rfl (any_of HT_.out (by kernel_rfl)) (fun _ _ _ h => h) (Or.inl ⟨by rfl, ?_⟩) ?_ ?_
   rotate_left; (·intro w'; go_simp; (first | with_reducible rfl | (refine if_neg ?_; omega))); rotate_left; (·simp only [Act.put, sA, sZ, sS, i64_w, i32_w]; rfl)
   refine pure_ (i := 25) (N := some 39) (v := ?_) (a' := ?_) (mb 47 14094203617279) rfl rfl (any_of HT_.out (by kernel_rfl)) (fun _ _ _ h => h) (Or.inl ⟨by rfl, ?_⟩) ?_ ?_
   rotate_left; (·intro w'; go_simp; (first | with_reducible rfl | (refine if_neg ?_; omega))); rotate_left; (·simp only [Act.put, sA, sZ, sS, i64_w, i32_w]; rfl)
   refine one_ (i := 28) (N := some 42) (mb 47 14094472052735) rfl rfl (one_of HT_.out (by kernel_rfl)) (by decide) (fun K hK => ?_)
   refine goes_ Tryd.func26 (by kernel_rfl) rfl #[.int .i64 a0_4] (by rfl) rfl rfl (by (try simp only [mT, mC, mN]) <;> rfl) ?_
   with_reducible refine (spec_l4Two.calls kj3 a0_4 t276 _ A27.out).mono ?_
   rintro e w45 ⟨rfl, hb⟩
   have HS7_ := (hb.cell (World.block_lt_of_cell? _ _ (hHeld.2.2.2.2.2.2.2))).trans (hHeld.2.2.2.2.2.2.2)
   refine ⟨_, rfl, ?_⟩
   have n0_ := aM (Kd.R_below (by (with_reducible repeat (first | apply Kd.R_alloc | apply Kd.R_drewN | apply Kd.R_drew)); exact HO272.out) hb); have n1_ := aM (blk_below (by (with_reducible repeat (first | refine Bf ?_ _ | refine Bh ?_ | refine Bg ?_ _)); exact BK266.out) hb); have n2_ := aM (below_step (by repeat (with_reducible first | exact HB.out | apply Be | apply Bc | apply Bd | refine Bs ?_ GE266.out)) hb); clear HO272; clear BK266; clear HB; have HO272 := n0_; have BK266 := n1_; have HB := n2_; clear n0_ n1_ n2_
   (try clear hb)
   (try clear hb2)
   (try clear hk)
   (try clear hi)
   refine hK.out _ _ ⟨(Ba BK266.out 0).trans rfl, (Ba BK266.out 1).trans rfl, (Ba BK266.out 2).trans rfl, (Ba BK266.out 3).trans rfl, (Ba BK266.out 4).trans rfl, (Ba BK266.out 5).trans rfl, (Ba BK266.out 6).trans rfl, HS7_⟩ (fun hHeld => ?_)
   clear hK K
   refine norm_ (a' := ?_) ?_ ?_
   rotate_left
   ·show Act.put _ (some 42) _ = _
    simp only [Act.put, sA, sZ, sS, i64_w, i32_w]
    rfl
   refine pure_ (i := 29) (N := some 43) (v := ?_) (a' := ?_) (mb 47 14095008923647) rfl rfl (any_of HT_.out (by kernel_rfl)) (fun _ _ _ h => h) (Or.inl ⟨by rfl, ?_⟩) ?_ ?_
   rotate_left; (·intro w'; go_simp; (first | with_reducible rfl | (refine if_neg ?_; omega))); rotate_left; (·simp only [Act.put, sA, sZ, sS, i64_w, i32_w]; rfl)
   refine pure_ (i := 30) (N := some 44) (v := ?_) (a' := ?_) (mb 47 14096082665471) rfl rfl (any_of HT_.out (by kernel_rfl)) (fun _ _ _ h => h) (Or.inl ⟨by rfl, ?_⟩) ?_ ?_
   rotate_left; (·intro w'; go_simp; (first | with_reducible rfl | (refine if_neg ?_; omega))); rotate_left; (·simp only [Act.put, sA, sZ, sS, i64_w, i32_w]; rfl)
   refine one_ (i := 33) (N := some 47) (mb 47 14104672600063) rfl rfl (one_of HT_.out (by kernel_rfl)) (by decide) (fun K hK => ?_)
   refine goes_ Tryd.func26 (by kernel_rfl) rfl #[.int .i64 a0_5] (by rfl) rfl rfl (by (try simp only [mT, mC, mN]) <;> rfl) ?_
   with_reducible refine (spec_l4Two.calls kj3 a0_5 t277 _ A30.out).mono ?_
   rintro e w46 ⟨rfl, hb⟩
   have HS7_ := (hb.cell (World.block_lt_of_cell? _ _ (hHeld.2.2.2.2.2.2.2))).trans (hHeld.2.2.2.2.2.2.2)
   refine ⟨_, rfl, ?_⟩
   have n0_ := aM (Kd.R_below (by (with_reducible repeat (first | apply Kd.R_alloc | apply Kd.R_drewN | apply Kd.R_drew)); exact HO272.out) hb); have n1_ := aM (blk_below (by (with_reducible repeat (first | refine Bf ?_ _ | refine Bh ?_ | refine Bg ?_ _)); exact BK266.out) hb); have n2_ := aM (below_step (by repeat (with_reducible first | exact HB.out | apply Be | apply Bc | apply Bd | refine Bs ?_ GE266.out)) hb); clear HO272; clear BK266; clear HB; have HO272 := n0_; have BK266 := n1_; have HB := n2_; clear n0_ n1_ n2_
   (try clear hb)
   (try clear hb2)
   (try clear hk)
   (try clear hi)
   refine hK.out _ _ ⟨(Ba BK266.out 0).trans rfl, (Ba BK266.out 1).trans rfl, (Ba BK266.out 2).trans rfl, (Ba BK266.out 3).trans rfl, (Ba BK266.out 4).trans rfl, (Ba BK266.out 5).trans rfl, (Ba BK266.out 6).trans rfl, HS7_⟩ (fun hHeld => ?_)
   clear hK K
   refine norm_ (a' := ?_) ?_ ?_
   rotate_left
   ·show Act.put _ (some 47) _ = _
    simp only [Act.put, sA, sZ, sS, i64_w, i32_w]
    rfl
   refine pure_ (i := 34) (N := some 48) (v := ?_) (a' := ?_) (mb 47 14121852469247) rfl rfl (any_of HT_.out (by kernel_rfl)) (fun _ _ _ h => h) (Or.inl ⟨by rfl, ?_⟩) ?_ ?_
   rotate_left; (·intro w'; go_simp; (first | with_reducible rfl | (refine if_neg ?_; omega))); rotate_left; (·simp only [Act.put, sA, sZ, sS, i64_w, i32_w]; rfl)
   refine pure_ (i := 35) (N := some 49) (v := ?_) (a' := ?_) (mb 47 14156212207615) rfl rfl (any_of HT_.out (by kernel_rfl)) (fun _ _ _ h => h) (Or.inl ⟨by rfl, ?_⟩) ?_ ?_
   rotate_left; (·intro w'; go_simp; (first | with_reducible rfl | (refine if_neg ?_; omega))); rotate_left; (·simp only [Act.put, sA, sZ, sS, i64_w, i32_w]; rfl)
   refine pure_ (i := 37) (N := some 51) (v := ?_) (a' := ?_) (mb 47 14293651161087) rfl rfl (any_of HT_.out (by kernel_rfl)) (fun _ _ _ h => h) (Or.inl ⟨by rfl, ?_⟩) ?_ ?_
   rotate_left; (·intro w'; go_simp; (first | with_reducible rfl | (refine if_neg ?_; omega))); rotate_left; (·simp only [Act.put, sA, sZ, sS, i64_w, i32_w]; rfl)
   refine one_ (i := 40) (N := some 54) (mb 47 15393162788863) rfl rfl (one_of HT_.out (by kernel_rfl)) (by decide) (fun K hK => ?_)
   refine goes_ Tryd.func26 (by kernel_rfl) rfl #[.int .i64 (wrap64 (Int.tdiv x4_3 60))] (by rfl) rfl rfl (by (try simp only [mT, mC, mN]) <;> rfl) ?_
   with_reducible refine (spec_l4Two.calls kj3 (wrap64 (Int.tdiv x4_3 60)) t278 _ A34.out).mono ?_
   rintro e w47 ⟨rfl, hb⟩
   have HS7_ := (hb.cell (World.block_lt_of_cell? _ _ (hHeld.2.2.2.2.2.2.2))).trans (hHeld.2.2.2.2.2.2.2)
   refine ⟨_, rfl, ?_⟩
   have n0_ := aM (Kd.R_below (by (with_reducible repeat (first | apply Kd.R_alloc | apply Kd.R_drewN | apply Kd.R_drew)); exact HO272.out) hb); have n1_ := aM (blk_below (by (with_reducible repeat (first | refine Bf ?_ _ | refine Bh ?_ | refine Bg ?_ _)); exact BK266.out) hb); have n2_ := aM (below_step (by repeat (with_reducible first | exact HB.out | apply Be | apply Bc | apply Bd | refine Bs ?_ GE266.out)) hb); clear HO272; clear BK266; clear HB; have HO272 := n0_; have BK266 := n1_; have HB := n2_; clear n0_ n1_ n2_
   (try clear hb)
   (try clear hb2)
   (try clear hk)
   (try clear hi)
   refine hK.out _ _ ⟨(Ba BK266.out 0).trans rfl, (Ba BK266.out 1).trans rfl, (Ba BK266.out 2).trans rfl, (Ba BK266.out 3).trans rfl, (Ba BK266.out 4).trans rfl, (Ba BK266.out 5).trans rfl, (Ba BK266.out 6).trans rfl, HS7_⟩ (fun hHeld => ?_)
   clear hK K
   refine norm_ (a' := ?_) ?_ ?_
   rotate_left
   ·show Act.put _ (some 54) _ = _
    simp only [Act.put, sA, sZ, sS, i64_w, i32_w]
    rfl
   refine pure_ (i := 41) (N := some 55) (v := ?_) (a' := ?_) (mb 47 17592186044415) rfl rfl (any_of HT_.out (by kernel_rfl)) (fun _ _ _ h => h) (Or.inl ⟨by rfl, ?_⟩) ?_ ?_
   rotate_left; (·intro w'; go_simp; (first | with_reducible rfl | (refine if_neg ?_; omega))); rotate_left; (·simp only [Act.put, sA, sZ, sS, i64_w, i32_w]; rfl)
   refine one_ (i := 44) (N := some 58) (mb 47 35184372088831) rfl rfl (one_of HT_.out (by kernel_rfl)) (by decide) (fun K hK => ?_)
   refine goes_ Tryd.func26 (by kernel_rfl) rfl #[.int .i64 (Int.tmod x4_3 60)] (by rfl) rfl rfl (by (try simp only [mT, mC, mN]) <;> rfl) ?_
   with_reducible refine (spec_l4Two.calls kj3 (Int.tmod x4_3 60) t279 _ A36.out).mono ?_
   rintro e w48 ⟨rfl, hb⟩
   have HS7_ := (hb.cell (World.block_lt_of_cell? _ _ (hHeld.2.2.2.2.2.2.2))).trans (hHeld.2.2.2.2.2.2.2)
   refine ⟨_, rfl, ?_⟩
   have n0_ := aM (Kd.R_below (by (with_reducible repeat (first | apply Kd.R_alloc | apply Kd.R_drewN | apply Kd.R_drew)); exact HO272.out) hb); have n1_ := aM (blk_below (by (with_reducible repeat (first | refine Bf ?_ _ | refine Bh ?_ | refine Bg ?_ _)); exact BK266.out) hb); have n2_ := aM (below_step (by repeat (with_reducible first | exact HB.out | apply Be | apply Bc | apply Bd | refine Bs ?_ GE266.out)) hb); clear HO272; clear BK266; clear HB; have HO272 := n0_; have BK266 := n1_; have HB := n2_; clear n0_ n1_ n2_
   (try clear hb)
   (try clear hb2)
   (try clear hk)
   (try clear hi)
   refine hK.out _ _ ⟨(Ba BK266.out 0).trans rfl, (Ba BK266.out 1).trans rfl, (Ba BK266.out 2).trans rfl, (Ba BK266.out 3).trans rfl, (Ba BK266.out 4).trans rfl, (Ba BK266.out 5).trans rfl, (Ba BK266.out 6).trans rfl, HS7_⟩ (fun hHeld => ?_)
   clear hK K
   refine norm_ (a' := ?_) ?_ ?_
   rotate_left
   ·show Act.put _ (some 58) _ = _
    simp only [Act.put, sA, sZ, sS, i64_w, i32_w]
    rfl
   refine pure_ (i := 45) (N := some 59) (v := ?_) (a' := ?_) (mb 47 70368744177663) rfl rfl (any_of HT_.out (by kernel_rfl)) (fun _ _ _ h => h) (Or.inl ⟨by rfl, ?_⟩) ?_ ?_
   rotate_left; (·intro w'; go_simp; (first | with_reducible rfl | (refine if_neg ?_; omega))); rotate_left; (·simp only [Act.put, sA, sZ, sS, i64_w, i32_w]; rfl)
   refine pure_ (i := 46) (N := some 2) (v := ?_) (a' := ?_) (mb 47 140737488355327) rfl rfl (any_of HT_.out (by kernel_rfl)) (fun _ _ _ h => h) (Or.inl ⟨by rfl, ?_⟩) ?_ ?_
   rotate_left; (·intro w'; go_simp; (first | with_reducible rfl | (refine if_neg ?_; omega))); rotate_left; (·simp only [Act.put, sA, sZ, sS, i64_w, i32_w]; rfl)
   refine done_ (done_of HT_.out (by kernel_rfl)) ?_
   try go_wp2
   go_ret
   exact ⟨by first | with_reducible rfl | (simp only [← hji16]; with_reducible rfl) | rfl | (simp [errW_none, errW_some] <;> rfl) | (simp only [← hji16]; first | rfl | (simp [errW_none, errW_some] <;> rfl)) | (simp [*, errW_none, errW_some] <;> rfl), by repeat (with_reducible first | exact HB.out | apply Be | apply Bc | apply Bd | refine Bs ?_ GE266.out)⟩
end Go.Proofs.YtafpbechcjcdbaaDoor.PFnDateText
