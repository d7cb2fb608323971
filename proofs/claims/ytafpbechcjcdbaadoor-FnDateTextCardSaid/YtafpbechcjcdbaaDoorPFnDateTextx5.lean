-- By a program of this session.
import Derived.Test.YtafpbechcjcdbaaDoorPFnDateTextx0
import Derived.Test.YtafpbechcjcdbaaDoorPFnDateTextx3
import Derived.Test.YtafpbechcjcdbaaDoorPFnDateTextx4
namespace Go.Proofs.YtafpbechcjcdbaaDoor.PFnDateText
open Go.RowKit Go.Proofs.YtafpbechcjcdbaaDoorW.PrintWords Go.Proofs.YtafpbechcjcdbaaDoorW.PrintLast Go.Proofs.YtafpbechcjcdbaaDoorW.PrintMore
open Go.Proofs.YtafpbechcjcdbaaDoorW.PrintWords renaming blk_cell → Ba, pw_below_drewN → Bc, below_drew1 → Bd, below_alloc → Be, blk_drewN → Bf, blk_alloc → Bg, blk_drew → Bh, below_set → Bs
open Go.Proofs.YtafpbechcjcdbaaDoorW.PrintWords.Aside0 renaming mk → aM
open Option renaming bind_eq_some_iff → bI
open Bool renaming true → Y, false → X
open List renaming setIfInBounds_toArray → sA, set_cons_zero → sZ, set_cons_succ → sS, map_toArray → mT, map_cons → mC, map_nil → mN, length_drop → lD, length_take → lT
attribute [local go_sem] max2_int min2_int max_two min_two max_three min_three max_four min_four
set_option linter.unusedVariables false
set_option linter.unusedSimpArgs false
def impl_DateValid.f (k : Nat) (a0_0 : Int) (a0_1 : Int) (a0_2 : Int) (a0_3 : Int) (a0_4 : Int) (a0_5 : Int) (a0_6 : Int) : Option (Bool) := (impl_DaysOf.f k a0_0 a0_1).bind fun t219 => ((impl_between.f a0_2 1 t219).bind fun t220 => (if t220 = true then ((impl_between.f a0_3 0 23).bind fun t221 => (if t221 = true then ((impl_between.f a0_4 0 59).bind fun t222 => (if t222 = true then ((impl_between.f a0_5 0 59).bind fun t223 => (if t223 = true then ((impl_isZone.f a0_6).bind fun t224 => (if t224 = true then ((impl_Date_seconds.f k a0_0 a0_1 a0_2 a0_3 a0_4 a0_5 a0_6).bind fun t225 => ((impl_between.f t225 0 4102444799).bind fun t226 => (some t226))) else (some false))) else (some false))) else (some false))) else (some false))) else (some false)))
theorem impl_DateValid.mono : ∀ a0 a1 a2 a3 a4 a5 a6 k, LeO (impl_DateValid.f k a0 a1 a2 a3 a4 a5 a6) (impl_DateValid.f (k + 1) a0 a1 a2 a3 a4 a5 a6) := by
 intro a0 a1 a2 a3 a4 a5 a6 k
 unfold impl_DateValid.f
 repeat' first
   | (with_reducible exact impl_Date_seconds.mono _ _ _ _ _ _ _ _)
   | (with_reducible exact impl_DaysOf.mono _ _ _)
   | (with_reducible exact LeO.refl _)
   | (with_reducible exact LeO.none _)
   | (with_reducible refine LeO.ite ?_ ?_)
   | (with_reducible refine LeO.bind ?_ (fun _ => ?_))
def impl_DateValid.T1 : Bool × List (List Nat × List Nat) := (true, [([], []), ([0], [0]), ([], []), ([2], [2]), ([], []), ([4], [4]), ([3, 5], [3, 5]), ([1, 6, 6], [1, 6]), ([7, 7], [7]), ([8], [8]), ([9, 8], [8, 9]), ([10, 8, 8], [8, 10]), ([8, 11], [8, 11]), ([12, 11], [12]), ([13], [13]), ([14, 13], [13, 14]), ([15, 13, 13], [13, 15]), ([13, 16], [13, 16]), ([17, 16], [17]), ([18], [18]), ([19, 18], [18, 19]), ([20, 18, 18], [18, 20]), ([18, 21], [18, 21]), ([22, 21], [22]), ([23], [23]), ([24, 23], [23, 24]), ([25, 23, 23], [23, 25]), ([23, 26], [23, 26]), ([27, 26], [27]), ([28], [28]), ([29, 28, 28], [28, 29]), ([30, 30, 28], [28, 30]), ([28, 31], [28, 31]), ([32, 31, 0, 1, 2, 3, 4, 5, 6, 7, 8, 9, 10, 11, 12, 13, 14, 15, 16, 17, 18, 19, 20, 21, 22, 23, 24, 25, 26, 27, 28, 29, 30, 31, 32], [32])])
def impl_DateValid.B1 : List Nat := [0, 1, 0, 4, 0, 16, 60, 127, 255, 511, 1023, 2047, 4095, 8191, 16383, 32767, 65535, 131071, 262143, 524287, 1048575, 2097151, 4194303, 8388607, 16777215, 33554431, 67108863, 134217727, 268435455, 536870911, 1073741823, 2147483647, 4294967295, 8589934591]
theorem impl_DateValid.tab1 : rtab .any (opsOf Tryd.f18 1) = impl_DateValid.T1 := by kernel_rfl
theorem impl_DateValid.bits1 : waitsOk impl_DateValid.T1.2 impl_DateValid.B1 = true := by kernel_rfl
set_option maxHeartbeats 8000000 in
set_option maxRecDepth 100000 in
theorem impl_DateValid.calls (k : Nat) (a0_0 : Int) (a0_1 : Int) (a0_2 : Int) (a0_3 : Int) (a0_4 : Int) (a0_5 : Int) (a0_6 : Int) (r : Bool) (w : World) (h : impl_DateValid.f k a0_0 a0_1 a0_2 a0_3 a0_4 a0_5 a0_6 = some r) :
  Calls Tryd.prog 18 #[.agg #[.int .i64 a0_0, .int .i64 a0_1, .int .i64 a0_2, .int .i64 a0_3, .int .i64 a0_4, .int .i64 a0_5, .int .i64 a0_6]] w fun e w' => e = .returned (.bool r) ∧ Below w.heap.size w w' := by
 have hu24 := Tryd.underlying24
 have HB := aM (Below.refl w.heap.size w)
 have H : ((impl_DaysOf.f k a0_0 a0_1).bind fun t219 => ((impl_between.f a0_2 1 t219).bind fun t220 => (if t220 = true then ((impl_between.f a0_3 0 23).bind fun t221 => (if t221 = true then ((impl_between.f a0_4 0 59).bind fun t222 => (if t222 = true then ((impl_between.f a0_5 0 59).bind fun t223 => (if t223 = true then ((impl_isZone.f a0_6).bind fun t224 => (if t224 = true then ((impl_Date_seconds.f k a0_0 a0_1 a0_2 a0_3 a0_4 a0_5 a0_6).bind fun t225 => ((impl_between.f t225 0 4102444799).bind fun t226 => (some t226))) else (some false))) else (some false))) else (some false))) else (some false))) else (some false)))) = some r := h
 clear h
 replace H := bI.mp H
 obtain ⟨t219, A20, H⟩ := H
 (try dsimp only at H)
 have A2 := aM A20
 clear A20
 replace H := bI.mp H
 obtain ⟨t220, A30, H⟩ := H
 (try dsimp only at H)
 have A3 := aM A30
 clear A30
 by_cases c4 : t220 = true
 ·subst c4
  have H1 : ((impl_between.f a0_3 0 23).bind fun t221 => (if t221 = true then ((impl_between.f a0_4 0 59).bind fun t222 => (if t222 = true then ((impl_between.f a0_5 0 59).bind fun t223 => (if t223 = true then ((impl_isZone.f a0_6).bind fun t224 => (if t224 = true then ((impl_Date_seconds.f k a0_0 a0_1 a0_2 a0_3 a0_4 a0_5 a0_6).bind fun t225 => ((impl_between.f t225 0 4102444799).bind fun t226 => (some t226))) else (some false))) else (some false))) else (some false))) else (some false))) = some r := by rw [if_pos rfl] at H; exact H
  clear H
  have H := H1
  clear H1
  replace H := bI.mp H
  obtain ⟨t221, A50, H⟩ := H
  (try dsimp only at H)
  have A5 := aM A50
  clear A50
  by_cases c6 : t221 = true
  ·subst c6
   rw [if_pos rfl] at H; replace H := bI.mp H
   obtain ⟨t222, A70, H⟩ := H
   (try dsimp only at H)
   have A7 := aM A70; clear A70
   by_cases c8 : t222 = true
   ·subst c8
    rw [if_pos rfl] at H; replace H := bI.mp H
    obtain ⟨t223, A90, H⟩ := H
    (try dsimp only at H)
    have A9 := aM A90; clear A90
    by_cases c10 : t223 = true
    ·subst c10
     rw [if_pos rfl] at H; replace H := bI.mp H
     obtain ⟨t224, A110, H⟩ := H
     (try dsimp only at H)
     have A11 := aM A110; clear A110
     by_cases c12 : t224 = true
     ·subst c12
      rw [if_pos rfl] at H; replace H := bI.mp H
      obtain ⟨t225, A130, H⟩ := H
      (try dsimp only at H)
      have A13 := aM A130; clear A130; replace H := bI.mp H
      obtain ⟨t226, A140, H⟩ := H
      (try dsimp only at H)
      have A14 := aM A140; clear A140
      obtain rfl := Option.some.inj H
      go_enter Tryd.func18, Tryd.ntmps18
      try go_wp2_with (first | ((with_reducible refine gate_dst (N := 1) rfl ?_); refine box_event ?hg (N := 1) ?hd (cs := #[.int .i64 a0_0, .int .i64 a0_1, .int .i64 a0_2, .int .i64 a0_3, .int .i64 a0_4, .int .i64 a0_5, .int .i64 a0_6]) (t := 24) ?hr ?_; (case hd => rfl); (case hg => rfl); (case hr => first | (go_simp; done) | (go_simp; rfl)); intro gb218 hg w15 hbox hb; have n0_ := aM (below_step (by repeat (with_reducible first | exact HB.out | apply Be | apply Bc | apply Bd)) hb); have n1_ := aM (hbox); have n2_ := aM ((by rw [hg]; exact (below_size (by repeat (with_reducible first | exact HB.out | apply Be | apply Bc | apply Bd))) : w.heap.size ≤ gb218)); have n3_ := n2_; clear HB; have HB := n0_; have BK218 := n1_; have GW218 := n2_; have GE218 := n3_; clear n0_ n1_ n2_ n3_; clear hb hbox hg))
      have n0_ := aM (Bh BK218.out); have n1_ := aM (Bd HB.out); clear BK218; clear HB; have BK218 := n0_; have HB := n1_; clear n0_ n1_
      refine start_ (n := 34) (S := fun w' => w'.cell? ⟨gb218, 0, none⟩ = some (.int .i64 a0_0) ∧ w'.cell? ⟨gb218, 1, none⟩ = some (.int .i64 a0_1) ∧ w'.cell? ⟨gb218, 2, none⟩ = some (.int .i64 a0_2) ∧ w'.cell? ⟨gb218, 3, none⟩ = some (.int .i64 a0_3) ∧ w'.cell? ⟨gb218, 4, none⟩ = some (.int .i64 a0_4) ∧ w'.cell? ⟨gb218, 5, none⟩ = some (.int .i64 a0_5) ∧ w'.cell? ⟨gb218, 6, none⟩ = some (.int .i64 a0_6)) (ds := []) #[X,X,X,X,X,X,X,X,X,X,X,X,X,X,X,X,X,X,X,X,X,X,X,X,X,X,X,X,X,X,X,X,X,X] (by kernel_rfl) rfl rfl (c7_ BK218.out) (fun hHeld => ?_); refine with_tabW impl_DateValid.tab1 impl_DateValid.bits1 (fun HT_ HW_ => ?_)
      generalize w15.drew = w16 at BK218 HB hHeld ⊢
      refine ord_ 34 [(0,3,1),(2,5,5),(4,7,21),(1,4,23),(3,6,31),(5,8,63)] ?_
      iterate 6 (first | (refine st_ (v := ?_) (a' := ?_) HT_ HW_ rfl rfl (by kernel_rfl) (fun _ _ _ h => h) (Or.inl ⟨by rfl, ?_⟩) hHeld ?_ ?_; rotate_left; (·rintro w' ⟨s0, s1, s2, s3, s4, s5, s6⟩; go_simp; (with_reducible rfl)); rotate_left; (·simp only [Act.put, sA, sZ, sS, i64_w, i32_w]; rfl)) | (refine sp_ (v := ?_) (a' := ?_) HT_ rfl rfl (by kernel_rfl) (fun _ _ _ h => h) (Or.inl ⟨by rfl, ?_⟩) ?_ ?_; rotate_left; (·intro w'; go_simp; (with_reducible rfl)); rotate_left; (·simp only [Act.put, sA, sZ, sS, i64_w, i32_w]; rfl)))
      refine one_ (i := 6) (N := some 9) (mb 34 127) rfl rfl (one_of HT_.out (by kernel_rfl)) (by decide) (fun K hK => ?_)
      refine goes_ Tryd.func49 (by kernel_rfl) rfl #[.int .i64 a0_0, .int .i64 a0_1] (by rfl) rfl rfl (by (try simp only [mT, mC, mN]) <;> rfl) ?_
      with_reducible refine (impl_DaysOf.calls k a0_0 a0_1 t219 _ A2.out).mono ?_
      rintro e w' ⟨rfl, ⟨nd, rfl⟩⟩
      refine ⟨_, rfl, ?_⟩
      refine hK.out _ _ (c7_ BK218.out) (fun hHeld => ?_)
      clear hK K
      refine norm_ (a' := ?_) ?_ ?_
      rotate_left
      ·show Act.put _ (some 9) _ = _
       simp only [Act.put, sA, sZ, sS, i64_w, i32_w]
       rfl
      refine one_ (i := 7) (N := some 10) (mb 34 255) rfl rfl (one_of HT_.out (by kernel_rfl)) (by decide) (fun K hK => ?_)
      refine goes_ Tryd.func48 (by kernel_rfl) rfl #[.int .i64 a0_2, .int .i64 1, .int .i64 t219] (by rfl) rfl rfl (by (try simp only [mT, mC, mN]) <;> rfl) ?_
      with_reducible refine (impl_between.calls a0_2 1 t219 true _ A3.out).mono ?_
      rintro e w' ⟨rfl, ⟨nd, rfl⟩⟩
      refine ⟨_, rfl, ?_⟩
      refine hK.out _ _ (c7_ BK218.out) (fun hHeld => ?_)
      clear hK K
      refine norm_ (a' := ?_) ?_ ?_
      rotate_left
      ·show Act.put _ (some 10) _ = _
       simp only [Act.put, sA, sZ, sS, i64_w, i32_w]
       rfl
      refine ord_ 34 [(8,11,511),(9,12,1023),(10,13,2047)] ?_
      iterate 3 (first | (refine st_ (v := ?_) (a' := ?_) HT_ HW_ rfl rfl (by kernel_rfl) (fun _ _ _ h => h) (Or.inl ⟨by rfl, ?_⟩) hHeld ?_ ?_; rotate_left; (·rintro w' ⟨s0, s1, s2, s3, s4, s5, s6⟩; go_simp; (with_reducible rfl)); rotate_left; (·simp only [Act.put, sA, sZ, sS, i64_w, i32_w]; rfl)) | (refine sp_ (v := ?_) (a' := ?_) HT_ rfl rfl (by kernel_rfl) (fun _ _ _ h => h) (Or.inl ⟨by rfl, ?_⟩) ?_ ?_; rotate_left; (·intro w'; go_simp; (with_reducible rfl)); rotate_left; (·simp only [Act.put, sA, sZ, sS, i64_w, i32_w]; rfl)))
      refine one_ (i := 11) (N := some 14) (mb 34 4095) rfl rfl (one_of HT_.out (by kernel_rfl)) (by decide) (fun K hK => ?_)
      refine goes_ Tryd.func48 (by kernel_rfl) rfl #[.int .i64 a0_3, .int .i64 0, .int .i64 23] (by rfl) rfl rfl (by (try simp only [mT, mC, mN]) <;> rfl) ?_
      with_reducible refine (impl_between.calls a0_3 0 23 true _ A5.out).mono ?_
      rintro e w' ⟨rfl, ⟨nd, rfl⟩⟩
      refine ⟨_, rfl, ?_⟩
      refine hK.out _ _ (c7_ BK218.out) (fun hHeld => ?_)
      clear hK K
      refine norm_ (a' := ?_) ?_ ?_
      rotate_left
      ·show Act.put _ (some 14) _ = _
       simp only [Act.put, sA, sZ, sS, i64_w, i32_w]
       rfl
      refine ord_ 34 [(12,15,8191),(13,16,16383),(14,17,32767),(15,18,65535)] ?_
      iterate 4 (first | (refine st_ (v := ?_) (a' := ?_) HT_ HW_ rfl rfl (by kernel_rfl) (fun _ _ _ h => h) (Or.inl ⟨by rfl, ?_⟩) hHeld ?_ ?_; rotate_left; (·rintro w' ⟨s0, s1, s2, s3, s4, s5, s6⟩; go_simp; (with_reducible rfl)); rotate_left; (·simp only [Act.put, sA, sZ, sS, i64_w, i32_w]; rfl)) | (refine sp_ (v := ?_) (a' := ?_) HT_ rfl rfl (by kernel_rfl) (fun _ _ _ h => h) (Or.inl ⟨by rfl, ?_⟩) ?_ ?_; rotate_left; (·intro w'; go_simp; (with_reducible rfl)); rotate_left; (·simp only [Act.put, sA, sZ, sS, i64_w, i32_w]; rfl)))
      refine one_ (i := 16) (N := some 19) (mb 34 131071) rfl rfl (one_of HT_.out (by kernel_rfl)) (by decide) (fun K hK => ?_)
      refine goes_ Tryd.func48 (by kernel_rfl) rfl #[.int .i64 a0_4, .int .i64 0, .int .i64 59] (by rfl) rfl rfl (by (try simp only [mT, mC, mN]) <;> rfl) ?_
      with_reducible refine (impl_between.calls a0_4 0 59 true _ A7.out).mono ?_
      rintro e w' ⟨rfl, ⟨nd, rfl⟩⟩
      refine ⟨_, rfl, ?_⟩
      refine hK.out _ _ (c7_ BK218.out) (fun hHeld => ?_)
      clear hK K
      refine norm_ (a' := ?_) ?_ ?_
      rotate_left
      ·show Act.put _ (some 19) _ = _
       simp only [Act.put, sA, sZ, sS, i64_w, i32_w]
       rfl
      refine ord_ 34 [(17,20,262143),(18,21,524287),(19,22,1048575),(20,23,2097151)] ?_
      iterate 4 (first | (refine st_ (v := ?_) (a' := ?_) HT_ HW_ rfl rfl (by kernel_rfl) (fun _ _ _ h => h) (Or.inl ⟨by rfl, ?_⟩) hHeld ?_ ?_; rotate_left; (·rintro w' ⟨s0, s1, s2, s3, s4, s5, s6⟩; go_simp; (with_reducible rfl)); rotate_left; (·simp only [Act.put, sA, sZ, sS, i64_w, i32_w]; rfl)) | (refine sp_ (v := ?_) (a' := ?_) HT_ rfl rfl (by kernel_rfl) (fun _ _ _ h => h) (Or.inl ⟨by rfl, ?_⟩) ?_ ?_; rotate_left; (·intro w'; go_simp; (with_reducible rfl)); rotate_left; (·simp only [Act.put, sA, sZ, sS, i64_w, i32_w]; rfl)))
      refine one_ (i := 21) (N := some 24) (mb 34 4194303) rfl rfl (one_of HT_.out (by kernel_rfl)) (by decide) (fun K hK => ?_)
      refine goes_ Tryd.func48 (by kernel_rfl) rfl #[.int .i64 a0_5, .int .i64 0, .int .i64 59] (by rfl) rfl rfl (by (try simp only [mT, mC, mN]) <;> rfl) ?_
      with_reducible refine (impl_between.calls a0_5 0 59 true _ A9.out).mono ?_
      rintro e w' ⟨rfl, ⟨nd, rfl⟩⟩
      refine ⟨_, rfl, ?_⟩
      refine hK.out _ _ (c7_ BK218.out) (fun hHeld => ?_)
      clear hK K
      refine norm_ (a' := ?_) ?_ ?_
      rotate_left
      ·show Act.put _ (some 24) _ = _
       simp only [Act.put, sA, sZ, sS, i64_w, i32_w]
       rfl
      refine ord_ 34 [(22,25,8388607),(23,26,16777215),(24,27,33554431),(25,28,67108863)] ?_
      iterate 4 (first | (refine st_ (v := ?_) (a' := ?_) HT_ HW_ rfl rfl (by kernel_rfl) (fun _ _ _ h => h) (Or.inl ⟨by rfl, ?_⟩) hHeld ?_ ?_; rotate_left; (·rintro w' ⟨s0, s1, s2, s3, s4, s5, s6⟩; go_simp; (with_reducible rfl)); rotate_left; (·simp only [Act.put, sA, sZ, sS, i64_w, i32_w]; rfl)) | (refine sp_ (v := ?_) (a' := ?_) HT_ rfl rfl (by kernel_rfl) (fun _ _ _ h => h) (Or.inl ⟨by rfl, ?_⟩) ?_ ?_; rotate_left; (·intro w'; go_simp; (with_reducible rfl)); rotate_left; (·simp only [Act.put, sA, sZ, sS, i64_w, i32_w]; rfl)))
      refine one_ (i := 26) (N := some 29) (mb 34 134217727) rfl rfl (one_of HT_.out (by kernel_rfl)) (by decide) (fun K hK => ?_)
      refine goes_ Tryd.func50 (by kernel_rfl) rfl #[.int .i64 a0_6] (by rfl) rfl rfl (by (try simp only [mT, mC, mN]) <;> rfl) ?_
      with_reducible refine (impl_isZone.calls a0_6 true _ A11.out).mono ?_
      rintro e w' ⟨rfl, ⟨nd, rfl⟩⟩
      refine ⟨_, rfl, ?_⟩
      refine hK.out _ _ (c7_ BK218.out) (fun hHeld => ?_)
      clear hK K
      refine norm_ (a' := ?_) ?_ ?_
      rotate_left
      ·show Act.put _ (some 29) _ = _
       simp only [Act.put, sA, sZ, sS, i64_w, i32_w]
       rfl
      refine ord_ 34 [(27,30,268435455),(28,31,536870911),(29,32,1073741823)] ?_
      iterate 3 (first | (refine st_ (v := ?_) (a' := ?_) HT_ HW_ rfl rfl (by kernel_rfl) (fun _ _ _ h => h) (Or.inl ⟨by rfl, ?_⟩) hHeld ?_ ?_; rotate_left; (·rintro w' ⟨s0, s1, s2, s3, s4, s5, s6⟩; go_simp; (with_reducible rfl)); rotate_left; (·simp only [Act.put, sA, sZ, sS, i64_w, i32_w]; rfl)) | (refine sp_ (v := ?_) (a' := ?_) HT_ rfl rfl (by kernel_rfl) (fun _ _ _ h => h) (Or.inl ⟨by rfl, ?_⟩) ?_ ?_; rotate_left; (·intro w'; go_simp; (with_reducible rfl)); rotate_left; (·simp only [Act.put, sA, sZ, sS, i64_w, i32_w]; rfl)))
      refine one_ (i := 30) (N := some 33) (mb 34 2147483647) rfl rfl (one_of HT_.out (by kernel_rfl)) (by decide) (fun K hK => ?_)
      refine goes_ Tryd.func51 (by kernel_rfl) rfl #[.agg #[.int .i64 a0_0, .int .i64 a0_1, .int .i64 a0_2, .int .i64 a0_3, .int .i64 a0_4, .int .i64 a0_5, .int .i64 a0_6]] (by rfl) rfl rfl (by (try simp only [mT, mC, mN]) <;> rfl) ?_
      with_reducible refine (impl_Date_seconds.calls k a0_0 a0_1 a0_2 a0_3 a0_4 a0_5 a0_6 t225 _ A13.out).mono ?_
      rintro e w17 ⟨rfl, hb⟩
      refine ⟨_, rfl, ?_⟩
      have n0_ := aM (blk_below (by (with_reducible repeat (first | refine Bf ?_ _ | refine Bh ?_ | refine Bg ?_ _)); exact BK218.out) hb); have n1_ := aM (below_step (by repeat (with_reducible first | exact HB.out | apply Be | apply Bc | apply Bd | refine Bs ?_ GE218.out)) hb); clear BK218; clear HB; have BK218 := n0_; have HB := n1_; clear n0_ n1_
      (try clear hb)
      (try clear hb2)
      (try clear hk)
      (try clear hi)
      refine hK.out _ _ (c7_ BK218.out) (fun hHeld => ?_)
      clear hK K
      refine norm_ (a' := ?_) ?_ ?_
      rotate_left
      ·show Act.put _ (some 33) _ = _
       simp only [Act.put, sA, sZ, sS, i64_w, i32_w]
       rfl
      refine one_ (i := 31) (N := some 34) (mb 34 4294967295) rfl rfl (one_of HT_.out (by kernel_rfl)) (by decide) (fun K hK => ?_)
      refine goes_ Tryd.func48 (by kernel_rfl) rfl #[.int .i64 t225, .int .i64 0, .int .i64 4102444799] (by rfl) rfl rfl (by (try simp only [mT, mC, mN]) <;> rfl) ?_
      with_reducible refine (impl_between.calls t225 0 4102444799 t226 _ A14.out).mono ?_
      rintro e w' ⟨rfl, ⟨nd, rfl⟩⟩
      refine ⟨_, rfl, ?_⟩
      refine hK.out _ _ (c7_ BK218.out) (fun hHeld => ?_)
      clear hK K
      refine norm_ (a' := ?_) ?_ ?_
      rotate_left
      ·show Act.put _ (some 34) _ = _
       simp only [Act.put, sA, sZ, sS, i64_w, i32_w]
       rfl
      refine ord_ 34 [(32,35,8589934591),(33,2,17179869183)] ?_
      iterate 2 (refine sp_ (v := ?_) (a' := ?_) HT_ rfl rfl (by kernel_rfl) (fun _ _ _ h => h) (Or.inl ⟨by rfl, ?_⟩) ?_ ?_; rotate_left; (·intro w'; go_simp; (with_reducible rfl)); rotate_left; (·simp only [Act.put, sA, sZ, sS, i64_w, i32_w]; rfl))
      refine done_ (done_of HT_.out (by kernel_rfl)) ?_
      try go_wp2
      go_ret
      exact ⟨by first | rfl | (simp [errW_none, errW_some] <;> rfl) | (simp [*, errW_none, errW_some] <;> rfl), by repeat (with_reducible first | exact HB.out | apply Be | apply Bc | apply Bd | refine Bs ?_ GE218.out)⟩
     replace c12 := Bool.eq_false_iff.mpr c12
     subst c12
     rw [if_neg (show ¬ (false = true) by decide)] at H
     obtain rfl := Option.some.inj H
     go_enter Tryd.func18, Tryd.ntmps18
     try go_wp2_with (first | ((with_reducible refine gate_dst (N := 1) rfl ?_); refine box_event ?hg (N := 1) ?hd (cs := #[.int .i64 a0_0, .int .i64 a0_1, .int .i64 a0_2, .int .i64 a0_3, .int .i64 a0_4, .int .i64 a0_5, .int .i64 a0_6]) (t := 24) ?hr ?_; (case hd => rfl); (case hg => rfl); (case hr => first | (go_simp; done) | (go_simp; rfl)); intro gb218 hg w18 hbox hb; have n0_ := aM (below_step (by repeat (with_reducible first | exact HB.out | apply Be | apply Bc | apply Bd)) hb); have n1_ := aM (hbox); have n2_ := aM ((by rw [hg]; exact (below_size (by repeat (with_reducible first | exact HB.out | apply Be | apply Bc | apply Bd))) : w.heap.size ≤ gb218)); have n3_ := n2_; clear HB; have HB := n0_; have BK218 := n1_; have GW218 := n2_; have GE218 := n3_; clear n0_ n1_ n2_ n3_; clear hb hbox hg))
     have n0_ := aM (Bh BK218.out); have n1_ := aM (Bd HB.out); clear BK218; clear HB; have BK218 := n0_; have HB := n1_; clear n0_ n1_
     refine start_ (n := 34) (S := fun w' => w'.cell? ⟨gb218, 0, none⟩ = some (.int .i64 a0_0) ∧ w'.cell? ⟨gb218, 1, none⟩ = some (.int .i64 a0_1) ∧ w'.cell? ⟨gb218, 2, none⟩ = some (.int .i64 a0_2) ∧ w'.cell? ⟨gb218, 3, none⟩ = some (.int .i64 a0_3) ∧ w'.cell? ⟨gb218, 4, none⟩ = some (.int .i64 a0_4) ∧ w'.cell? ⟨gb218, 5, none⟩ = some (.int .i64 a0_5) ∧ w'.cell? ⟨gb218, 6, none⟩ = some (.int .i64 a0_6)) (ds := []) #[X,X,X,X,X,X,X,X,X,X,X,X,X,X,X,X,X,X,X,X,X,X,X,X,X,X,X,X,X,X,X,X,X,X] (by kernel_rfl) rfl rfl (c7_ BK218.out) (fun hHeld => ?_); refine with_tabW impl_DateValid.tab1 impl_DateValid.bits1 (fun HT_ HW_ => ?_)
     generalize w18.drew = w19 at BK218 HB hHeld ⊢
     refine ord_ 34 [(0,3,1),(2,5,5),(4,7,21),(1,4,23),(3,6,31),(5,8,63)] ?_
     iterate 6 (first | (refine st_ (v := ?_) (a' := ?_) HT_ HW_ rfl rfl (by kernel_rfl) (fun _ _ _ h => h) (Or.inl ⟨by rfl, ?_⟩) hHeld ?_ ?_; rotate_left; (·rintro w' ⟨s0, s1, s2, s3, s4, s5, s6⟩; go_simp; (with_reducible rfl)); rotate_left; (·simp only [Act.put, sA, sZ, sS, i64_w, i32_w]; rfl)) | (refine sp_ (v := ?_) (a' := ?_) HT_ rfl rfl (by kernel_rfl) (fun _ _ _ h => h) (Or.inl ⟨by rfl, ?_⟩) ?_ ?_; rotate_left; (·intro w'; go_simp; (with_reducible rfl)); rotate_left; (·simp only [Act.put, sA, sZ, sS, i64_w, i32_w]; rfl)))
     refine one_ (i := 6) (N := some 9) (mb 34 127) rfl rfl (one_of HT_.out (by kernel_rfl)) (by decide) (fun K hK => ?_)
     refine goes_ Tryd.func49 (by kernel_rfl) rfl #[.int .i64 a0_0, .int .i64 a0_1] (by rfl) rfl rfl (by (try simp only [mT, mC, mN]) <;> rfl) ?_
     with_reducible refine (impl_DaysOf.calls k a0_0 a0_1 t219 _ A2.out).mono ?_
     rintro e w' ⟨rfl, ⟨nd, rfl⟩⟩
     refine ⟨_, rfl, ?_⟩
     refine hK.out _ _ (c7_ BK218.out) (fun hHeld => ?_)
     clear hK K
     refine norm_ (a' := ?_) ?_ ?_
     rotate_left
     ·show Act.put _ (some 9) _ = _
      simp only [Act.put, sA, sZ, sS, i64_w, i32_w]
      rfl
     refine one_ (i := 7) (N := some 10) (mb 34 255) rfl rfl (one_of HT_.out (by kernel_rfl)) (by decide) (fun K hK => ?_)
     refine goes_ Tryd.func48 (by kernel_rfl) rfl #[.int .i64 a0_2, .int .i64 1, .int .i64 t219] (by rfl) rfl rfl (by (try simp only [mT, mC, mN]) <;> rfl) ?_
     with_reducible refine (impl_between.calls a0_2 1 t219 true _ A3.out).mono ?_
     rintro e w' ⟨rfl, ⟨nd, rfl⟩⟩
     refine ⟨_, rfl, ?_⟩
     refine hK.out _ _ (c7_ BK218.out) (fun hHeld => ?_)
     clear hK K
     refine norm_ (a' := ?_) ?_ ?_
     rotate_left
     ·show Act.put _ (some 10) _ = _
      simp only [Act.put, sA, sZ, sS, i64_w, i32_w]
      rfl
     refine ord_ 34 [(8,11,511),(9,12,1023),(10,13,2047)] ?_
     iterate 3 (first | (refine st_ (v := ?_) (a' := ?_) HT_ HW_ rfl rfl (by kernel_rfl) (fun _ _ _ h => h) (Or.inl ⟨by rfl, ?_⟩) hHeld ?_ ?_; rotate_left; (·rintro w' ⟨s0, s1, s2, s3, s4, s5, s6⟩; go_simp; (with_reducible rfl)); rotate_left; (·simp only [Act.put, sA, sZ, sS, i64_w, i32_w]; rfl)) | (refine sp_ (v := ?_) (a' := ?_) HT_ rfl rfl (by kernel_rfl) (fun _ _ _ h => h) (Or.inl ⟨by rfl, ?_⟩) ?_ ?_; rotate_left; (·intro w'; go_simp; (with_reducible rfl)); rotate_left; (·simp only [Act.put, sA, sZ, sS, i64_w, i32_w]; rfl)))
     refine one_ (i := 11) (N := some 14) (mb 34 4095) rfl rfl (one_of HT_.out (by kernel_rfl)) (by decide) (fun K hK => ?_)
     refine goes_ Tryd.func48 (by kernel_rfl) rfl #[.int .i64 a0_3, .int .i64 0, .int .i64 23] (by rfl) rfl rfl (by (try simp only [mT, mC, mN]) <;> rfl) ?_
     with_reducible refine (impl_between.calls a0_3 0 23 true _ A5.out).mono ?_
     rintro e w' ⟨rfl, ⟨nd, rfl⟩⟩
     refine ⟨_, rfl, ?_⟩
     refine hK.out _ _ (c7_ BK218.out) (fun hHeld => ?_)
     clear hK K
     refine norm_ (a' := ?_) ?_ ?_
     rotate_left
     ·show Act.put _ (some 14) _ = _
      simp only [Act.put, sA, sZ, sS, i64_w, i32_w]
      rfl
     refine ord_ 34 [(12,15,8191),(13,16,16383),(14,17,32767),(15,18,65535)] ?_
     iterate 4 (first | (refine st_ (v := ?_) (a' := ?_) HT_ HW_ rfl rfl (by kernel_rfl) (fun _ _ _ h => h) (Or.inl ⟨by rfl, ?_⟩) hHeld ?_ ?_; rotate_left; (·rintro w' ⟨s0, s1, s2, s3, s4, s5, s6⟩; go_simp; (with_reducible rfl)); rotate_left; (·simp only [Act.put, sA, sZ, sS, i64_w, i32_w]; rfl)) | (refine sp_ (v := ?_) (a' := ?_) HT_ rfl rfl (by kernel_rfl) (fun _ _ _ h => h) (Or.inl ⟨by rfl, ?_⟩) ?_ ?_; rotate_left; (·intro w'; go_simp; (with_reducible rfl)); rotate_left; (·simp only [Act.put, sA, sZ, sS, i64_w, i32_w]; rfl)))
     refine one_ (i := 16) (N := some 19) (mb 34 131071) rfl rfl (one_of HT_.out (by kernel_rfl)) (by decide) (fun K hK => ?_)
     refine goes_ Tryd.func48 (by kernel_rfl) rfl #[.int .i64 a0_4, .int .i64 0, .int .i64 59] (by rfl) rfl rfl (by (try simp only [mT, mC, mN]) <;> rfl) ?_
     with_reducible refine (impl_between.calls a0_4 0 59 true _ A7.out).mono ?_
     rintro e w' ⟨rfl, ⟨nd, rfl⟩⟩
     refine ⟨_, rfl, ?_⟩
     refine hK.out _ _ (c7_ BK218.out) (fun hHeld => ?_)
     clear hK K
     refine norm_ (a' := ?_) ?_ ?_
     rotate_left
     ·show Act.put _ (some 19) _ = _
      simp only [Act.put, sA, sZ, sS, i64_w, i32_w]
      rfl
     refine ord_ 34 [(17,20,262143),(18,21,524287),(19,22,1048575),(20,23,2097151)] ?_
     iterate 4 (first | (refine st_ (v := ?_) (a' := ?_) HT_ HW_ rfl rfl (by kernel_rfl) (fun _ _ _ h => h) (Or.inl ⟨by rfl, ?_⟩) hHeld ?_ ?_; rotate_left; (·rintro w' ⟨s0, s1, s2, s3, s4, s5, s6⟩; go_simp; (with_reducible rfl)); rotate_left; (·simp only [Act.put, sA, sZ, sS, i64_w, i32_w]; rfl)) | (refine sp_ (v := ?_) (a' := ?_) HT_ rfl rfl (by kernel_rfl) (fun _ _ _ h => h) (Or.inl ⟨by rfl, ?_⟩) ?_ ?_; rotate_left; (·intro w'; go_simp; (with_reducible rfl)); rotate_left; (·simp only [Act.put, sA, sZ, sS, i64_w, i32_w]; rfl)))
     refine one_ (i := 21) (N := some 24) (mb 34 4194303) rfl rfl (one_of HT_.out (by kernel_rfl)) (by decide) (fun K hK => ?_)
     refine goes_ Tryd.func48 (by kernel_rfl) rfl #[.int .i64 a0_5, .int .i64 0, .int .i64 59] (by rfl) rfl rfl (by (try simp only [mT, mC, mN]) <;> rfl) ?_
     with_reducible refine (impl_between.calls a0_5 0 59 true _ A9.out).mono ?_
     rintro e w' ⟨rfl, ⟨nd, rfl⟩⟩
     refine ⟨_, rfl, ?_⟩
     refine hK.out _ _ (c7_ BK218.out) (fun hHeld => ?_)
     clear hK K
     refine norm_ (a' := ?_) ?_ ?_
     rotate_left
     ·show Act.put _ (some 24) _ = _
      simp only [Act.put, sA, sZ, sS, i64_w, i32_w]
      rfl
     refine ord_ 34 [(22,25,8388607),(23,26,16777215),(24,27,33554431),(25,28,67108863)] ?_
     iterate 4 (first | (refine st_ (v := ?_) (a' := ?_) HT_ HW_ rfl rfl (by kernel_rfl) (fun _ _ _ h => h) (Or.inl ⟨by rfl, ?_⟩) hHeld ?_ ?_; rotate_left; (·rintro w' ⟨s0, s1, s2, s3, s4, s5, s6⟩; go_simp; (with_reducible rfl)); rotate_left; (·simp only [Act.put, sA, sZ, sS, i64_w, i32_w]; rfl)) | (refine sp_ (v := ?_) (a' := ?_) HT_ rfl rfl (by kernel_rfl) (fun _ _ _ h => h) (Or.inl ⟨by rfl, ?_⟩) ?_ ?_; rotate_left; (·intro w'; go_simp; (with_reducible rfl)); rotate_left; (·simp only [Act.put, sA, sZ, sS, i64_w, i32_w]; rfl)))
     refine one_ (i := 26) (N := some 29) (mb 34 134217727) rfl rfl (one_of HT_.out (by kernel_rfl)) (by decide) (fun K hK => ?_)
     refine goes_ Tryd.func50 (by kernel_rfl) rfl #[.int .i64 a0_6] (by rfl) rfl rfl (by (try simp only [mT, mC, mN]) <;> rfl) ?_
     with_reducible refine (impl_isZone.calls a0_6 false _ A11.out).mono ?_
     rintro e w' ⟨rfl, ⟨nd, rfl⟩⟩
     refine ⟨_, rfl, ?_⟩
     refine hK.out _ _ (c7_ BK218.out) (fun hHeld => ?_)
     clear hK K
     refine norm_ (a' := ?_) ?_ ?_
     rotate_left
     ·show Act.put _ (some 29) _ = _
      simp only [Act.put, sA, sZ, sS, i64_w, i32_w]
      rfl
     refine ord_ 34 [(27,30,268435455),(28,31,536870911),(29,32,1073741823),(30,33,2147483647),(31,34,4294967295),(32,35,8589934591),(33,2,17179869183)] ?_
     iterate 7 (first | (refine sp_ (v := undef) (a' := ?_) HT_ rfl rfl (by kernel_rfl) (fun _ _ _ h => h) (Or.inr ⟨by rfl, rfl⟩) ?_ ?_; rotate_left; (·simp only [Act.put, sA, sZ, sS, i64_w, i32_w]; rfl)) | (refine sp_ (v := ?_) (a' := ?_) HT_ rfl rfl (by kernel_rfl) (fun _ _ _ h => h) (Or.inl ⟨by rfl, ?_⟩) ?_ ?_; rotate_left; (·intro w'; go_simp; (with_reducible rfl)); rotate_left; (·simp only [Act.put, sA, sZ, sS, i64_w, i32_w]; rfl)))
     refine done_ (done_of HT_.out (by kernel_rfl)) ?_
     try go_wp2
     go_ret
     exact ⟨by first | rfl | (simp [errW_none, errW_some] <;> rfl) | (simp [*, errW_none, errW_some] <;> rfl), by repeat (with_reducible first | exact HB.out | apply Be | apply Bc | apply Bd | refine Bs ?_ GE218.out)⟩
    replace c10 := Bool.eq_false_iff.mpr c10
    subst c10
    rw [if_neg (show ¬ (false = true) by decide)] at H
    obtain rfl := Option.some.inj H
    go_enter Tryd.func18, Tryd.ntmps18
    try go_wp2_with (first | ((with_reducible refine gate_dst (N := 1) rfl ?_); refine box_event ?hg (N := 1) ?hd (cs := #[.int .i64 a0_0, .int .i64 a0_1, .int .i64 a0_2, .int .i64 a0_3, .int .i64 a0_4, .int .i64 a0_5, .int .i64 a0_6]) (t := 24) ?hr ?_; (case hd => rfl); (case hg => rfl); (case hr => first | (go_simp; done) | (go_simp; rfl)); intro gb218 hg w20 hbox hb; have n0_ := aM (below_step (by repeat (with_reducible first | exact HB.out | apply Be | apply Bc | apply Bd)) hb); have n1_ := aM (hbox); have n2_ := aM ((by rw [hg]; exact (below_size (by repeat (with_reducible first | exact HB.out | apply Be | apply Bc | apply Bd))) : w.heap.size ≤ gb218)); have n3_ := n2_; clear HB; have HB := n0_; have BK218 := n1_; have GW218 := n2_; have GE218 := n3_; clear n0_ n1_ n2_ n3_; clear hb hbox hg))
    have n0_ := aM (Bh BK218.out); have n1_ := aM (Bd HB.out); clear BK218; clear HB; have BK218 := n0_; have HB := n1_; clear n0_ n1_
    refine start_ (n := 34) (S := fun w' => w'.cell? ⟨gb218, 0, none⟩ = some (.int .i64 a0_0) ∧ w'.cell? ⟨gb218, 1, none⟩ = some (.int .i64 a0_1) ∧ w'.cell? ⟨gb218, 2, none⟩ = some (.int .i64 a0_2) ∧ w'.cell? ⟨gb218, 3, none⟩ = some (.int .i64 a0_3) ∧ w'.cell? ⟨gb218, 4, none⟩ = some (.int .i64 a0_4) ∧ w'.cell? ⟨gb218, 5, none⟩ = some (.int .i64 a0_5) ∧ w'.cell? ⟨gb218, 6, none⟩ = some (.int .i64 a0_6)) (ds := []) #[X,X,X,X,X,X,X,X,X,X,X,X,X,X,X,X,X,X,X,X,X,X,X,X,X,X,X,X,X,X,X,X,X,X] (by kernel_rfl) rfl rfl (c7_ BK218.out) (fun hHeld => ?_); refine with_tabW impl_DateValid.tab1 impl_DateValid.bits1 (fun HT_ HW_ => ?_)
    generalize w20.drew = w21 at BK218 HB hHeld ⊢
    refine ord_ 34 [(0,3,1),(2,5,5),(4,7,21),(1,4,23),(3,6,31),(5,8,63)] ?_
    iterate 6 (first | (refine st_ (v := ?_) (a' := ?_) HT_ HW_ rfl rfl (by kernel_rfl) (fun _ _ _ h => h) (Or.inl ⟨by rfl, ?_⟩) hHeld ?_ ?_; rotate_left; (·rintro w' ⟨s0, s1, s2, s3, s4, s5, s6⟩; go_simp; (with_reducible rfl)); rotate_left; (·simp only [Act.put, sA, sZ, sS, i64_w, i32_w]; rfl)) | (refine sp_ (v := ?_) (a' := ?_) HT_ rfl rfl (by kernel_rfl) (fun _ _ _ h => h) (Or.inl ⟨by rfl, ?_⟩) ?_ ?_; rotate_left; (·intro w'; go_simp; (with_reducible rfl)); rotate_left; (·simp only [Act.put, sA, sZ, sS, i64_w, i32_w]; rfl)))
    refine one_ (i := 6) (N := some 9) (mb 34 127) rfl rfl (one_of HT_.out (by kernel_rfl)) (by decide) (fun K hK => ?_)
    refine goes_ Tryd.func49 (by kernel_rfl) rfl #[.int .i64 a0_0, .int .i64 a0_1] (by rfl) rfl rfl (by (try simp only [mT, mC, mN]) <;> rfl) ?_
    with_reducible refine (impl_DaysOf.calls k a0_0 a0_1 t219 _ A2.out).mono ?_
    rintro e w' ⟨rfl, ⟨nd, rfl⟩⟩
    refine ⟨_, rfl, ?_⟩
    refine hK.out _ _ (c7_ BK218.out) (fun hHeld => ?_)
    clear hK K
    refine norm_ (a' := ?_) ?_ ?_
    rotate_left
    ·show Act.put _ (some 9) _ = _
     simp only [Act.put, sA, sZ, sS, i64_w, i32_w]
     rfl
    refine one_ (i := 7) (N := some 10) (mb 34 255) rfl rfl (one_of HT_.out (by kernel_rfl)) (by decide) (fun K hK => ?_)
    refine goes_ Tryd.func48 (by kernel_rfl) rfl #[.int .i64 a0_2, .int .i64 1, .int .i64 t219] (by rfl) rfl rfl (by (try simp only [mT, mC, mN]) <;> rfl) ?_
    with_reducible refine (impl_between.calls a0_2 1 t219 true _ A3.out).mono ?_
    rintro e w' ⟨rfl, ⟨nd, rfl⟩⟩
    refine ⟨_, rfl, ?_⟩
    refine hK.out _ _ (c7_ BK218.out) (fun hHeld => ?_)
    clear hK K
    refine norm_ (a' := ?_) ?_ ?_
    rotate_left
    ·show Act.put _ (some 10) _ = _
     simp only [Act.put, sA, sZ, sS, i64_w, i32_w]
     rfl
    refine ord_ 34 [(8,11,511),(9,12,1023),(10,13,2047)] ?_
    iterate 3 (first | (refine st_ (v := ?_) (a' := ?_) HT_ HW_ rfl rfl (by kernel_rfl) (fun _ _ _ h => h) (Or.inl ⟨by rfl, ?_⟩) hHeld ?_ ?_; rotate_left; (·rintro w' ⟨s0, s1, s2, s3, s4, s5, s6⟩; go_simp; (with_reducible rfl)); rotate_left; (·simp only [Act.put, sA, sZ, sS, i64_w, i32_w]; rfl)) | (refine sp_ (v := ?_) (a' := ?_) HT_ rfl rfl (by kernel_rfl) (fun _ _ _ h => h) (Or.inl ⟨by rfl, ?_⟩) ?_ ?_; rotate_left; (·intro w'; go_simp; (with_reducible rfl)); rotate_left; (·simp only [Act.put, sA, sZ, sS, i64_w, i32_w]; rfl)))
    refine one_ (i := 11) (N := some 14) (mb 34 4095) rfl rfl (one_of HT_.out (by kernel_rfl)) (by decide) (fun K hK => ?_)
    refine goes_ Tryd.func48 (by kernel_rfl) rfl #[.int .i64 a0_3, .int .i64 0, .int .i64 23] (by rfl) rfl rfl (by (try simp only [mT, mC, mN]) <;> rfl) ?_
    with_reducible refine (impl_between.calls a0_3 0 23 true _ A5.out).mono ?_
    rintro e w' ⟨rfl, ⟨nd, rfl⟩⟩
    refine ⟨_, rfl, ?_⟩
    refine hK.out _ _ (c7_ BK218.out) (fun hHeld => ?_)
    clear hK K
    refine norm_ (a' := ?_) ?_ ?_
    rotate_left
    ·show Act.put _ (some 14) _ = _
     simp only [Act.put, sA, sZ, sS, i64_w, i32_w]
     rfl
    refine ord_ 34 [(12,15,8191),(13,16,16383),(14,17,32767),(15,18,65535)] ?_
    iterate 4 (first | (refine st_ (v := ?_) (a' := ?_) HT_ HW_ rfl rfl (by kernel_rfl) (fun _ _ _ h => h) (Or.inl ⟨by rfl, ?_⟩) hHeld ?_ ?_; rotate_left; (·rintro w' ⟨s0, s1, s2, s3, s4, s5, s6⟩; go_simp; (with_reducible rfl)); rotate_left; (·simp only [Act.put, sA, sZ, sS, i64_w, i32_w]; rfl)) | (refine sp_ (v := ?_) (a' := ?_) HT_ rfl rfl (by kernel_rfl) (fun _ _ _ h => h) (Or.inl ⟨by rfl, ?_⟩) ?_ ?_; rotate_left; (·intro w'; go_simp; (with_reducible rfl)); rotate_left; (·simp only [Act.put, sA, sZ, sS, i64_w, i32_w]; rfl)))
    refine one_ (i := 16) (N := some 19) (mb 34 131071) rfl rfl (one_of HT_.out (by kernel_rfl)) (by decide) (fun K hK => ?_)
    refine goes_ Tryd.func48 (by kernel_rfl) rfl #[.int .i64 a0_4, .int .i64 0, .int .i64 59] (by rfl) rfl rfl (by (try simp only [mT, mC, mN]) <;> rfl) ?_
    with_reducible refine (impl_between.calls a0_4 0 59 true _ A7.out).mono ?_
    rintro e w' ⟨rfl, ⟨nd, rfl⟩⟩
    refine ⟨_, rfl, ?_⟩
    refine hK.out _ _ (c7_ BK218.out) (fun hHeld => ?_)
    clear hK K
    refine norm_ (a' := ?_) ?_ ?_
    rotate_left
    ·show Act.put _ (some 19) _ = _
     simp only [Act.put, sA, sZ, sS, i64_w, i32_w]
     rfl
    refine ord_ 34 [(17,20,262143),(18,21,524287),(19,22,1048575),(20,23,2097151)] ?_
    iterate 4 (first | (refine st_ (v := ?_) (a' := ?_) HT_ HW_ rfl rfl (by kernel_rfl) (fun _ _ _ h => h) (Or.inl ⟨by rfl, ?_⟩) hHeld ?_ ?_; rotate_left; (·rintro w' ⟨s0, s1, s2, s3, s4, s5, s6⟩; go_simp; (with_reducible rfl)); rotate_left; (·simp only [Act.put, sA, sZ, sS, i64_w, i32_w]; rfl)) | (refine sp_ (v := ?_) (a' := ?_) HT_ rfl rfl (by kernel_rfl) (fun _ _ _ h => h) (Or.inl ⟨by rfl, ?_⟩) ?_ ?_; rotate_left; (·intro w'; go_simp; (with_reducible rfl)); rotate_left; (·simp only [Act.put, sA, sZ, sS, i64_w, i32_w]; rfl)))
    refine one_ (i := 21) (N := some 24) (mb 34 4194303) rfl rfl (one_of HT_.out (by kernel_rfl)) (by decide) (fun K hK => ?_)
    refine goes_ Tryd.func48 (by kernel_rfl) rfl #[.int .i64 a0_5, .int .i64 0, .int .i64 59] (by rfl) rfl rfl (by (try simp only [mT, mC, mN]) <;> rfl) ?_
    with_reducible refine (impl_between.calls a0_5 0 59 false _ A9.out).mono ?_
    rintro e w' ⟨rfl, ⟨nd, rfl⟩⟩
    refine ⟨_, rfl, ?_⟩
    refine hK.out _ _ (c7_ BK218.out) (fun hHeld => ?_)
    clear hK K
    refine norm_ (a' := ?_) ?_ ?_
    rotate_left
    ·show Act.put _ (some 24) _ = _
     simp only [Act.put, sA, sZ, sS, i64_w, i32_w]
     rfl
    refine ord_ 34 [(22,25,8388607),(23,26,16777215),(24,27,33554431),(25,28,67108863),(26,29,134217727),(27,30,268435455),(28,31,536870911),(29,32,1073741823),(30,33,2147483647),(31,34,4294967295),(32,35,8589934591),(33,2,17179869183)] ?_
    iterate 12 (first | (refine sp_ (v := undef) (a' := ?_) HT_ rfl rfl (by kernel_rfl) (fun _ _ _ h => h) (Or.inr ⟨by rfl, rfl⟩) ?_ ?_; rotate_left; (·simp only [Act.put, sA, sZ, sS, i64_w, i32_w]; rfl)) | (refine sp_ (v := ?_) (a' := ?_) HT_ rfl rfl (by kernel_rfl) (fun _ _ _ h => h) (Or.inl ⟨by rfl, ?_⟩) ?_ ?_; rotate_left; (·intro w'; go_simp; (with_reducible rfl)); rotate_left; (·simp only [Act.put, sA, sZ, sS, i64_w, i32_w]; rfl)))
    refine done_ (done_of HT_.out (by kernel_rfl)) ?_
    try go_wp2
    go_ret
    exact ⟨by first | rfl | (simp [errW_none, errW_some] <;> rfl) | (simp [*, errW_none, errW_some] <;> rfl), by repeat (with_reducible first | exact HB.out | apply Be | apply Bc | apply Bd | refine Bs ?_ GE218.out)⟩
   replace c8 := Bool.eq_false_iff.mpr c8
   subst c8
   rw [if_neg (show ¬ (false = true) by decide)] at H
   obtain rfl := Option.some.inj H
   go_enter Tryd.func18, Tryd.ntmps18
   try go_wp2_with (first | ((with_reducible refine gate_dst (N := 1) rfl ?_); refine box_event ?hg (N := 1) ?hd (cs := #[.int .i64 a0_0, .int .i64 a0_1, .int .i64 a0_2, .int .i64 a0_3, .int .i64 a0_4, .int .i64 a0_5, .int .i64 a0_6]) (t := 24) ?hr ?_; (case hd => rfl); (case hg => rfl); (case hr => first | (go_simp; done) | (go_simp; rfl)); intro gb218 hg w22 hbox hb; have n0_ := aM (below_step (by repeat (with_reducible first | exact HB.out | apply Be | apply Bc | apply Bd)) hb); have n1_ := aM (hbox); have n2_ := aM ((by rw [hg]; exact (below_size (by repeat (with_reducible first | exact HB.out | apply Be | apply Bc | apply Bd))) : w.heap.size ≤ gb218)); have n3_ := n2_; clear HB; have HB := n0_; have BK218 := n1_; have GW218 := n2_; have GE218 := n3_; clear n0_ n1_ n2_ n3_; clear hb hbox hg))
   have n0_ := aM (Bh BK218.out); have n1_ := aM (Bd HB.out); clear BK218; clear HB; have BK218 := n0_; have HB := n1_; clear n0_ n1_
   refine start_ (n := 34) (S := fun w' => w'.cell? ⟨gb218, 0, none⟩ = some (.int .i64 a0_0) ∧ w'.cell? ⟨gb218, 1, none⟩ = some (.int .i64 a0_1) ∧ w'.cell? ⟨gb218, 2, none⟩ = some (.int .i64 a0_2) ∧ w'.cell? ⟨gb218, 3, none⟩ = some (.int .i64 a0_3) ∧ w'.cell? ⟨gb218, 4, none⟩ = some (.int .i64 a0_4) ∧ w'.cell? ⟨gb218, 5, none⟩ = some (.int .i64 a0_5) ∧ w'.cell? ⟨gb218, 6, none⟩ = some (.int .i64 a0_6)) (ds := []) #[X,X,X,X,X,X,X,X,X,X,X,X,X,X,X,X,X,X,X,X,X,X,X,X,X,X,X,X,X,X,X,X,X,X] (by kernel_rfl) rfl rfl (c7_ BK218.out) (fun hHeld => ?_); refine with_tabW impl_DateValid.tab1 impl_DateValid.bits1 (fun HT_ HW_ => ?_)
   generalize w22.drew = w23 at BK218 HB hHeld ⊢
   refine ord_ 34 [(0,3,1),(2,5,5),(4,7,21),(1,4,23),(3,6,31),(5,8,63)] ?_
   iterate 6 (first | (refine st_ (v := ?_) (a' := ?_) HT_ HW_ rfl rfl (by kernel_rfl) (fun _ _ _ h => h) (Or.inl ⟨by rfl, ?_⟩) hHeld ?_ ?_; rotate_left; (·rintro w' ⟨s0, s1, s2, s3, s4, s5, s6⟩; go_simp; (with_reducible rfl)); rotate_left; (·simp only [Act.put, sA, sZ, sS, i64_w, i32_w]; rfl)) | (refine sp_ (v := ?_) (a' := ?_) HT_ rfl rfl (by kernel_rfl) (fun _ _ _ h => h) (Or.inl ⟨by rfl, ?_⟩) ?_ ?_; rotate_left; (·intro w'; go_simp; (with_reducible rfl)); rotate_left; (·simp only [Act.put, sA, sZ, sS, i64_w, i32_w]; rfl)))
   refine one_ (i := 6) (N := some 9) (mb 34 127) rfl rfl (one_of HT_.out (by kernel_rfl)) (by decide) (fun K hK => ?_)
   refine goes_ Tryd.func49 (by kernel_rfl) rfl #[.int .i64 a0_0, .int .i64 a0_1] (by rfl) rfl rfl (by (try simp only [mT, mC, mN]) <;> rfl) ?_
   with_reducible refine (impl_DaysOf.calls k a0_0 a0_1 t219 _ A2.out).mono ?_
   rintro e w' ⟨rfl, ⟨nd, rfl⟩⟩
   refine ⟨_, rfl, ?_⟩
   refine hK.out _ _ (c7_ BK218.out) (fun hHeld => ?_)
   clear hK K
   refine norm_ (a' := ?_) ?_ ?_
   rotate_left
   ·show Act.put _ (some 9) _ = _
    simp only [Act.put, sA, sZ, sS, i64_w, i32_w]
    rfl
   refine one_ (i := 7) (N := some 10) (mb 34 255) rfl rfl (one_of HT_.out (by kernel_rfl)) (by decide) (fun K hK => ?_)
   refine goes_ Tryd.func48 (by kernel_rfl) rfl #[.int .i64 a0_2, .int .i64 1, .int .i64 t219] (by rfl) rfl rfl (by (try simp only [mT, mC, mN]) <;> rfl) ?_
   with_reducible refine (impl_between.calls a0_2 1 t219 true _ A3.out).mono ?_
   rintro e w' ⟨rfl, ⟨nd, rfl⟩⟩
   refine ⟨_, rfl, ?_⟩
   refine hK.out _ _ (c7_ BK218.out) (fun hHeld => ?_)
   clear hK K
   refine norm_ (a' := ?_) ?_ ?_
   rotate_left
   ·show Act.put _ (some 10) _ = _
    simp only [Act.put, sA, sZ, sS, i64_w, i32_w]
    rfl
   refine ord_ 34 [(8,11,511),(9,12,1023),(10,13,2047)] ?_
   iterate 3 (first | (refine st_ (v := ?_) (a' := ?_) HT_ HW_ rfl rfl (by kernel_rfl) (fun _ _ _ h => h) (Or.inl ⟨by rfl, ?_⟩) hHeld ?_ ?_; rotate_left; (·rintro w' ⟨s0, s1, s2, s3, s4, s5, s6⟩; go_simp; (with_reducible rfl)); rotate_left; (·simp only [Act.put, sA, sZ, sS, i64_w, i32_w]; rfl)) | (refine sp_ (v := ?_) (a' := ?_) HT_ rfl rfl (by kernel_rfl) (fun _ _ _ h => h) (Or.inl ⟨by rfl, ?_⟩) ?_ ?_; rotate_left; (·intro w'; go_simp; (with_reducible rfl)); rotate_left; (·simp only [Act.put, sA, sZ, sS, i64_w, i32_w]; rfl)))
   refine one_ (i := 11) (N := some 14) (mb 34 4095) rfl rfl (one_of HT_.out (by kernel_rfl)) (by decide) (fun K hK => ?_)
   refine goes_ Tryd.func48 (by kernel_rfl) rfl #[.int .i64 a0_3, .int .i64 0, .int .i64 23] (by rfl) rfl rfl (by (try simp only [mT, mC, mN]) <;> rfl) ?_
   with_reducible refine (impl_between.calls a0_3 0 23 true _ A5.out).mono ?_
   rintro e w' ⟨rfl, ⟨nd, rfl⟩⟩
   refine ⟨_, rfl, ?_⟩
   refine hK.out _ _ (c7_ BK218.out) (fun hHeld => ?_)
   clear hK K
   refine norm_ (a' := ?_) ?_ ?_
   rotate_left
   ·show Act.put _ (some 14) _ = _
    simp only [Act.put, sA, sZ, sS, i64_w, i32_w]
    rfl
   refine ord_ 34 [(12,15,8191),(13,16,16383),(14,17,32767),(15,18,65535)] ?_
   iterate 4 (first | (refine st_ (v := ?_) (a' := ?_) HT_ HW_ rfl rfl (by kernel_rfl) (fun _ _ _ h => h) (Or.inl ⟨by rfl, ?_⟩) hHeld ?_ ?_; rotate_left; (·rintro w' ⟨s0, s1, s2, s3, s4, s5, s6⟩; go_simp; (with_reducible rfl)); rotate_left; (·simp only [Act.put, sA, sZ, sS, i64_w, i32_w]; rfl)) | (refine sp_ (v := ?_) (a' := ?_) HT_ rfl rfl (by kernel_rfl) (fun _ _ _ h => h) (Or.inl ⟨by rfl, ?_⟩) ?_ ?_; rotate_left; (·intro w'; go_simp; (with_reducible rfl)); rotate_left; (·simp only [Act.put, sA, sZ, sS, i64_w, i32_w]; rfl)))
   refine one_ (i := 16) (N := some 19) (mb 34 131071) rfl rfl (one_of HT_.out (by kernel_rfl)) (by decide) (fun K hK => ?_)
   refine goes_ Tryd.func48 (by kernel_rfl) rfl #[.int .i64 a0_4, .int .i64 0, .int .i64 59] (by rfl) rfl rfl (by (try simp only [mT, mC, mN]) <;> rfl) ?_
   with_reducible refine (impl_between.calls a0_4 0 59 false _ A7.out).mono ?_
   rintro e w' ⟨rfl, ⟨nd, rfl⟩⟩
   refine ⟨_, rfl, ?_⟩
   refine hK.out _ _ (c7_ BK218.out) (fun hHeld => ?_)
   clear hK K
   refine norm_ (a' := ?_) ?_ ?_
   rotate_left
   ·show Act.put _ (some 19) _ = _
    simp only [Act.put, sA, sZ, sS, i64_w, i32_w]
    rfl
   refine ord_ 34 [(17,20,262143),(18,21,524287),(19,22,1048575),(20,23,2097151),(21,24,4194303),(22,25,8388607),(23,26,16777215),(24,27,33554431),(25,28,67108863),(26,29,134217727),(27,30,268435455),(28,31,536870911),(29,32,1073741823),(30,33,2147483647),(31,34,4294967295),(32,35,8589934591),(33,2,17179869183)] ?_
   iterate 17 (first | (refine sp_ (v := undef) (a' := ?_) HT_ rfl rfl (by kernel_rfl) (fun _ _ _ h => h) (Or.inr ⟨by rfl, rfl⟩) ?_ ?_; rotate_left; (·simp only [Act.put, sA, sZ, sS, i64_w, i32_w]; rfl)) | (refine sp_ (v := ?_) (a' := ?_) HT_ rfl rfl (by kernel_rfl) (fun _ _ _ h => h) (Or.inl ⟨by rfl, ?_⟩) ?_ ?_; rotate_left; (·intro w'; go_simp; (with_reducible rfl)); rotate_left; (·simp only [Act.put, sA, sZ, sS, i64_w, i32_w]; rfl)))
   refine done_ (done_of HT_.out (by kernel_rfl)) ?_
   try go_wp2
   go_ret
   exact ⟨by first | rfl | (simp [errW_none, errW_some] <;> rfl) | (simp [*, errW_none, errW_some] <;> rfl), by repeat (with_reducible first | exact HB.out | apply Be | apply Bc | apply Bd | refine Bs ?_ GE218.out)⟩
  replace c6 := Bool.eq_false_iff.mpr c6
  subst c6
  rw [if_neg (show ¬ (false = true) by decide)] at H
  obtain rfl := Option.some.inj H
  go_enter Tryd.func18, Tryd.ntmps18
  try go_wp2_with (first | ((with_reducible refine gate_dst (N := 1) rfl ?_); refine box_event ?hg (N := 1) ?hd (cs := #[.int .i64 a0_0, .int .i64 a0_1, .int .i64 a0_2, .int .i64 a0_3, .int .i64 a0_4, .int .i64 a0_5, .int .i64 a0_6]) (t := 24) ?hr ?_; (case hd => rfl); (case hg => rfl); (case hr => first | (go_simp; done) | (go_simp; rfl)); intro gb218 hg w24 hbox hb; have n0_ := aM (below_step (by repeat (with_reducible first | exact HB.out | apply Be | apply Bc | apply Bd)) hb); have n1_ := aM (hbox); have n2_ := aM ((by rw [hg]; exact (below_size (by repeat (with_reducible first | exact HB.out | apply Be | apply Bc | apply Bd))) : w.heap.size ≤ gb218)); have n3_ := n2_; clear HB; have HB := n0_; have BK218 := n1_; have GW218 := n2_; have GE218 := n3_; clear n0_ n1_ n2_ n3_; clear hb hbox hg))
  have n0_ := aM (Bh BK218.out); have n1_ := aM (Bd HB.out); clear BK218; clear HB; have BK218 := n0_; have HB := n1_; clear n0_ n1_
  refine start_ (n := 34) (S := fun w' => w'.cell? ⟨gb218, 0, none⟩ = some (.int .i64 a0_0) ∧ w'.cell? ⟨gb218, 1, none⟩ = some (.int .i64 a0_1) ∧ w'.cell? ⟨gb218, 2, none⟩ = some (.int .i64 a0_2) ∧ w'.cell? ⟨gb218, 3, none⟩ = some (.int .i64 a0_3) ∧ w'.cell? ⟨gb218, 4, none⟩ = some (.int .i64 a0_4) ∧ w'.cell? ⟨gb218, 5, none⟩ = some (.int .i64 a0_5) ∧ w'.cell? ⟨gb218, 6, none⟩ = some (.int .i64 a0_6)) (ds := []) #[X,X,X,X,X,X,X,X,X,X,X,X,X,X,X,X,X,X,X,X,X,X,X,X,X,X,X,X,X,X,X,X,X,X] (by kernel_rfl) rfl rfl (c7_ BK218.out) (fun hHeld => ?_); refine with_tabW impl_DateValid.tab1 impl_DateValid.bits1 (fun HT_ HW_ => ?_)
  generalize w24.drew = w25 at BK218 HB hHeld ⊢
  refine ord_ 34 [(0,3,1),(2,5,5),(4,7,21),(1,4,23),(3,6,31),(5,8,63)] ?_
  iterate 6 (first | (refine st_ (v := ?_) (a' := ?_) HT_ HW_ rfl rfl (by kernel_rfl) (fun _ _ _ h => h) (Or.inl ⟨by rfl, ?_⟩) hHeld ?_ ?_; rotate_left; (·rintro w' ⟨s0, s1, s2, s3, s4, s5, s6⟩; go_simp; (with_reducible rfl)); rotate_left; (·simp only [Act.put, sA, sZ, sS, i64_w, i32_w]; rfl)) | (refine sp_ (v := ?_) (a' := ?_) HT_ rfl rfl (by kernel_rfl) (fun _ _ _ h => h) (Or.inl ⟨by rfl, ?_⟩) ?_ ?_; rotate_left; (·intro w'; go_simp; (with_reducible rfl)); rotate_left; (·simp only [Act.put, sA, sZ, sS, i64_w, i32_w]; rfl)))
  refine one_ (i := 6) (N := some 9) (mb 34 127) rfl rfl (one_of HT_.out (by kernel_rfl)) (by decide) (fun K hK => ?_)
  refine goes_ Tryd.func49 (by kernel_rfl) rfl #[.int .i64 a0_0, .int .i64 a0_1] (by rfl) rfl rfl (by (try simp only [mT, mC, mN]) <;> rfl) ?_
  with_reducible refine (impl_DaysOf.calls k a0_0 a0_1 t219 _ A2.out).mono ?_
  rintro e w' ⟨rfl, ⟨nd, rfl⟩⟩
  refine ⟨_, rfl, ?_⟩
  refine hK.out _ _ (c7_ BK218.out) (fun hHeld => ?_)
  clear hK K
  refine norm_ (a' := ?_) ?_ ?_
  rotate_left
  ·show Act.put _ (some 9) _ = _
   simp only [Act.put, sA, sZ, sS, i64_w, i32_w]
   rfl
  refine one_ (i := 7) (N := some 10) (mb 34 255) rfl rfl (one_of HT_.out (by kernel_rfl)) (by decide) (fun K hK => ?_)
  refine goes_ Tryd.func48 (by kernel_rfl) rfl #[.int .i64 a0_2, .int .i64 1, .int .i64 t219] (by rfl) rfl rfl (by (try simp only [mT, mC, mN]) <;> rfl) ?_
  with_reducible refine (impl_between.calls a0_2 1 t219 true _ A3.out).mono ?_
  rintro e w' ⟨rfl, ⟨nd, rfl⟩⟩
  refine ⟨_, rfl, ?_⟩
  refine hK.out _ _ (c7_ BK218.out) (fun hHeld => ?_)
  clear hK K
  refine norm_ (a' := ?_) ?_ ?_
  rotate_left
  ·show Act.put _ (some 10) _ = _
   simp only [Act.put, sA, sZ, sS, i64_w, i32_w]
   rfl
  refine ord_ 34 [(8,11,511),(9,12,1023),(10,13,2047)] ?_
  iterate 3 (first | (refine st_ (v := ?_) (a' := ?_) HT_ HW_ rfl rfl (by kernel_rfl) (fun _ _ _ h => h) (Or.inl ⟨by rfl, ?_⟩) hHeld ?_ ?_; rotate_left; (·rintro w' ⟨s0, s1, s2, s3, s4, s5, s6⟩; go_simp; (with_reducible rfl)); rotate_left; (·simp only [Act.put, sA, sZ, sS, i64_w, i32_w]; rfl)) | (refine sp_ (v := ?_) (a' := ?_) HT_ rfl rfl (by kernel_rfl) (fun _ _ _ h => h) (Or.inl ⟨by rfl, ?_⟩) ?_ ?_; rotate_left; (·intro w'; go_simp; (with_reducible rfl)); rotate_left; (·simp only [Act.put, sA, sZ, sS, i64_w, i32_w]; rfl)))
  refine one_ (i := 11) (N := some 14) (mb 34 4095) rfl rfl (one_of HT_.out (by kernel_rfl)) (by decide) (fun K hK => ?_)
  refine goes_ Tryd.func48 (by kernel_rfl) rfl #[.int .i64 a0_3, .int .i64 0, .int .i64 23] (by rfl) rfl rfl (by (try simp only [mT, mC, mN]) <;> rfl) ?_
  with_reducible refine (impl_between.calls a0_3 0 23 false _ A5.out).mono ?_
  rintro e w' ⟨rfl, ⟨nd, rfl⟩⟩
  refine ⟨_, rfl, ?_⟩
  refine hK.out _ _ (c7_ BK218.out) (fun hHeld => ?_)
  clear hK K
  refine norm_ (a' := ?_) ?_ ?_
  rotate_left
  ·show Act.put _ (some 14) _ = _
   simp only [Act.put, sA, sZ, sS, i64_w, i32_w]
   rfl
  refine ord_ 34 [(12,15,8191),(13,16,16383),(14,17,32767),(15,18,65535),(16,19,131071),(17,20,262143),(18,21,524287),(19,22,1048575),(20,23,2097151),(21,24,4194303),(22,25,8388607),(23,26,16777215),(24,27,33554431),(25,28,67108863),(26,29,134217727),(27,30,268435455),(28,31,536870911),(29,32,1073741823),(30,33,2147483647),(31,34,4294967295),(32,35,8589934591),(33,2,17179869183)] ?_
  iterate 22 (first | (refine sp_ (v := undef) (a' := ?_) HT_ rfl rfl (by kernel_rfl) (fun _ _ _ h => h) (Or.inr ⟨by rfl, rfl⟩) ?_ ?_; rotate_left; (·simp only [Act.put, sA, sZ, sS, i64_w, i32_w]; rfl)) | (refine sp_ (v := ?_) (a' := ?_) HT_ rfl rfl (by kernel_rfl) (fun _ _ _ h => h) (Or.inl ⟨by rfl, ?_⟩) ?_ ?_; rotate_left; (·intro w'; go_simp; (with_reducible rfl)); rotate_left; (·simp only [Act.put, sA, sZ, sS, i64_w, i32_w]; rfl)))
  refine done_ (done_of HT_.out (by kernel_rfl)) ?_
  try go_wp2
  go_ret
  exact ⟨by first | rfl | (simp [errW_none, errW_some] <;> rfl) | (simp [*, errW_none, errW_some] <;> rfl), by repeat (with_reducible first | exact HB.out | apply Be | apply Bc | apply Bd | refine Bs ?_ GE218.out)⟩
 replace c4 := Bool.eq_false_iff.mpr c4
 subst c4
 have H1 : (some false) = some r := by rw [if_neg (show ¬ (false = true) by decide)] at H; exact H
 clear H
 have H := H1
 clear H1
 obtain rfl := Option.some.inj H
 go_enter Tryd.func18, Tryd.ntmps18
 try go_wp2_with (first | ((with_reducible refine gate_dst (N := 1) rfl ?_); refine box_event ?hg (N := 1) ?hd (cs := #[.int .i64 a0_0, .int .i64 a0_1, .int .i64 a0_2, .int .i64 a0_3, .int .i64 a0_4, .int .i64 a0_5, .int .i64 a0_6]) (t := 24) ?hr ?_; (case hd => rfl); (case hg => rfl); (case hr => first | (go_simp; done) | (go_simp; rfl)); intro gb218 hg w26 hbox hb; have n0_ := aM (below_step (by repeat (with_reducible first | exact HB.out | apply Be | apply Bc | apply Bd)) hb); have n1_ := aM (hbox); have n2_ := aM ((by rw [hg]; exact (below_size (by repeat (with_reducible first | exact HB.out | apply Be | apply Bc | apply Bd))) : w.heap.size ≤ gb218)); have n3_ := n2_; clear HB; have HB := n0_; have BK218 := n1_; have GW218 := n2_; have GE218 := n3_; clear n0_ n1_ n2_ n3_; clear hb hbox hg))
 have n0_ := aM (Bh BK218.out)
 have n1_ := aM (Bd HB.out)
 clear BK218
 clear HB
 have BK218 := n0_
 have HB := n1_
 clear n0_ n1_
 refine start_ (n := 34) (S := fun w' => w'.cell? ⟨gb218, 0, none⟩ = some (.int .i64 a0_0) ∧ w'.cell? ⟨gb218, 1, none⟩ = some (.int .i64 a0_1) ∧ w'.cell? ⟨gb218, 2, none⟩ = some (.int .i64 a0_2) ∧ w'.cell? ⟨gb218, 3, none⟩ = some (.int .i64 a0_3) ∧ w'.cell? ⟨gb218, 4, none⟩ = some (.int .i64 a0_4) ∧ w'.cell? ⟨gb218, 5, none⟩ = some (.int .i64 a0_5) ∧ w'.cell? ⟨gb218, 6, none⟩ = some (.int .i64 a0_6)) (ds := []) #[X,X,X,X,X,X,X,X,X,X,X,X,X,X,X,X,X,X,X,X,X,X,X,X,X,X,X,X,X,X,X,X,X,X] (by kernel_rfl) rfl rfl (c7_ BK218.out) (fun hHeld => ?_); refine with_tabW impl_DateValid.tab1 impl_DateValid.bits1 (fun HT_ HW_ => ?_)
 generalize w26.drew = w27 at BK218 HB hHeld ⊢
 refine ord_ 34 [(0,3,1),(2,5,5),(4,7,21),(1,4,23),(3,6,31),(5,8,63)] ?_
 iterate 6 (first | (refine st_ (v := ?_) (a' := ?_) HT_ HW_ rfl rfl (by kernel_rfl) (fun _ _ _ h => h) (Or.inl ⟨by rfl, ?_⟩) hHeld ?_ ?_; rotate_left; (·rintro w' ⟨s0, s1, s2, s3, s4, s5, s6⟩; go_simp; (with_reducible rfl)); rotate_left; (·simp only [Act.put, sA, sZ, sS, i64_w, i32_w]; rfl)) | (refine sp_ (v := ?_) (a' := ?_) HT_ rfl rfl (by kernel_rfl) (fun _ _ _ h => h) (Or.inl ⟨by rfl, ?_⟩) ?_ ?_; rotate_left; (·intro w'; go_simp; (with_reducible rfl)); rotate_left; (·simp only [Act.put, sA, sZ, sS, i64_w, i32_w]; rfl)))
 refine one_ (i := 6) (N := some 9) (mb 34 127) rfl rfl (one_of HT_.out (by kernel_rfl)) (by decide) (fun K hK => ?_)
 refine goes_ Tryd.func49 (by kernel_rfl) rfl #[.int .i64 a0_0, .int .i64 a0_1] (by rfl) rfl rfl (by (try simp only [mT, mC, mN]) <;> rfl) ?_
 with_reducible refine (impl_DaysOf.calls k a0_0 a0_1 t219 _ A2.out).mono ?_
 rintro e w' ⟨rfl, ⟨nd, rfl⟩⟩
 refine ⟨_, rfl, ?_⟩
 refine hK.out _ _ (c7_ BK218.out) (fun hHeld => ?_)
 clear hK K
 refine norm_ (a' := ?_) ?_ ?_
 rotate_left
 ·show Act.put _ (some 9) _ = _
  simp only [Act.put, sA, sZ, sS, i64_w, i32_w]
  rfl
 refine one_ (i := 7) (N := some 10) (mb 34 255) rfl rfl (one_of HT_.out (by kernel_rfl)) (by decide) (fun K hK => ?_)
 refine goes_ Tryd.func48 (by kernel_rfl) rfl #[.int .i64 a0_2, .int .i64 1, .int .i64 t219] (by rfl) rfl rfl (by (try simp only [mT, mC, mN]) <;> rfl) ?_
 with_reducible refine (impl_between.calls a0_2 1 t219 false _ A3.out).mono ?_
 rintro e w' ⟨rfl, ⟨nd, rfl⟩⟩
 refine ⟨_, rfl, ?_⟩
 refine hK.out _ _ (c7_ BK218.out) (fun hHeld => ?_)
 clear hK K
 refine norm_ (a' := ?_) ?_ ?_
 rotate_left
 ·show Act.put _ (some 10) _ = _
  simp only [Act.put, sA, sZ, sS, i64_w, i32_w]
  rfl
 refine ord_ 34 [(8,11,511),(9,12,1023),(10,13,2047),(11,14,4095),(12,15,8191),(13,16,16383),(14,17,32767),(15,18,65535),(16,19,131071),(17,20,262143),(18,21,524287),(19,22,1048575),(20,23,2097151),(21,24,4194303),(22,25,8388607),(23,26,16777215),(24,27,33554431),(25,28,67108863),(26,29,134217727),(27,30,268435455),(28,31,536870911),(29,32,1073741823),(30,33,2147483647),(31,34,4294967295),(32,35,8589934591),(33,2,17179869183)] ?_
 iterate 26 (first | (refine sp_ (v := undef) (a' := ?_) HT_ rfl rfl (by kernel_rfl) (fun _ _ _ h => h) (Or.inr ⟨by rfl, rfl⟩) ?_ ?_; rotate_left; (·simp only [Act.put, sA, sZ, sS, i64_w, i32_w]; rfl)) | (refine sp_ (v := ?_) (a' := ?_) HT_ rfl rfl (by kernel_rfl) (fun _ _ _ h => h) (Or.inl ⟨by rfl, ?_⟩) ?_ ?_; rotate_left; (·intro w'; go_simp; (with_reducible rfl)); rotate_left; (·simp only [Act.put, sA, sZ, sS, i64_w, i32_w]; rfl)))
 refine done_ (done_of HT_.out (by kernel_rfl)) ?_
 try go_wp2
 go_ret
 exact ⟨by first | rfl | (simp [errW_none, errW_some] <;> rfl) | (simp [*, errW_none, errW_some] <;> rfl), by repeat (with_reducible first | exact HB.out | apply Be | apply Bc | apply Bd | refine Bs ?_ GE218.out)⟩
end Go.Proofs.YtafpbechcjcdbaaDoor.PFnDateText
