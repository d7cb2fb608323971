-- By a program of this session.
import Derived.Test.YtafpbechcjcdbaaDoorPFnDateTextx0
import Derived.Test.YtafpbechcjcdbaaDoorPFnDateTextx2
namespace Go.Proofs.YtafpbechcjcdbaaDoor.PFnDateText
open Go.RowKit Go.Proofs.YtafpbechcjcdbaaDoorW.PrintWords Go.Proofs.YtafpbechcjcdbaaDoorW.PrintLast Go.Proofs.YtafpbechcjcdbaaDoorW.PrintMore
open Go.Proofs.YtafpbechcjcdbaaDoorW.PrintWords renaming blk_cell → Ba, pw_below_drewN → Bc, below_drew1 → Bd, below_alloc → Be, blk_drewN → Bf, blk_alloc → Bg, blk_drew → Bh, below_set → Bs
open Go.Proofs.YtafpbechcjcdbaaDoorW.PrintWords.Aside0 renaming mk → aM
open Option renaming bind_eq_some_iff → bI
open Bool renaming true → Y, false → X
open List renaming setIfInBounds_toArray → sA, set_cons_zero → sZ, set_cons_succ → sS, map_toArray → mT, map_cons → mC, map_nil → mN, length_drop → lD, length_take → lT
attribute [local go_sem] max2_int min2_int max_two min_two max_three min_three max_four min_four
set_option linter.unusedVariables false
set_option linter.unusedSimpArgs false
def spec_l4Fields.f (k : Nat) (a0_0 : Int) (a0_1 : Int) (a0_2 : Int) (a0_3 : Int) (a0_4 : Int) (a0_5 : Int) (a0_6 : Int) : Option (Bool) := if a0_2 ≥ 1 then ((spec_DaysOf.f k a0_0 a0_1).bind fun t239 => (if a0_2 ≤ t239 then (if a0_3 ≥ 0 then (if a0_3 ≤ 23 then (if a0_4 ≥ 0 then (if a0_4 ≤ 59 then (if a0_5 ≥ 0 then (if a0_5 ≤ 59 then ((spec_l4Zone.f a0_6).bind fun t240 => (some t240)) else (some false)) else (some false)) else (some false)) else (some false)) else (some false)) else (some false)) else (some false))) else (some false)
theorem spec_l4Fields.mono : ∀ a0 a1 a2 a3 a4 a5 a6 k, LeO (spec_l4Fields.f k a0 a1 a2 a3 a4 a5 a6) (spec_l4Fields.f (k + 1) a0 a1 a2 a3 a4 a5 a6) := by
 intro a0 a1 a2 a3 a4 a5 a6 k
 unfold spec_l4Fields.f
 repeat' first
   | (with_reducible exact spec_DaysOf.mono _ _ _)
   | (with_reducible exact LeO.refl _)
   | (with_reducible exact LeO.none _)
   | (with_reducible refine LeO.ite ?_ ?_)
   | (with_reducible refine LeO.bind ?_ (fun _ => ?_))
def spec_l4Fields.T1 : Bool × List (List Nat × List Nat) := (true, [([], []), ([0], [0]), ([1], [1]), ([2], [2]), ([3], [3]), ([4, 3], [3, 4]), ([3], [3]), ([6, 3], [3, 6]), ([3], [3]), ([8, 3], [3, 8]), ([7, 9, 3, 3], [3, 7, 9]), ([5, 10, 3], [3, 5, 10]), ([3, 11], [3, 11]), ([12, 10], [12]), ([13], [13]), ([14, 13], [13, 14]), ([15, 13], [13, 15]), ([13, 16], [13, 16]), ([17, 13], [17]), ([18], [18]), ([19, 18], [18, 19]), ([20, 18], [18, 20]), ([18, 21], [18, 21]), ([22, 18], [22]), ([23], [23]), ([24, 23], [23, 24]), ([25, 23], [23, 25]), ([23, 26], [23, 26]), ([27, 23], [27]), ([28], [28]), ([29, 28], [28, 29]), ([30, 28], [28, 30]), ([28, 31], [28, 31]), ([32, 28], [32]), ([33], [33]), ([34, 33], [33, 34]), ([35, 33], [33, 35]), ([33, 36], [33, 36]), ([37, 33], [37]), ([38], [38]), ([39, 38], [38, 39]), ([40, 38], [38, 40]), ([38, 41], [38, 41]), ([42, 38], [42]), ([43], [43]), ([44, 43], [43, 44]), ([45, 43, 43], [43, 45]), ([43, 46], [43, 46]), ([47, 46, 0, 1, 2, 3, 4, 5, 6, 7, 8, 9, 10, 11, 12, 13, 14, 15, 16, 17, 18, 19, 20, 21, 22, 23, 24, 25, 26, 27, 28, 29, 30, 31, 32, 33, 34, 35, 36, 37, 38, 39, 40, 41, 42, 43, 44, 45, 46, 47], [47])])
def spec_l4Fields.B1 : List Nat := [0, 1, 3, 7, 15, 31, 15, 79, 15, 271, 975, 2047, 4095, 8191, 16383, 32767, 65535, 131071, 262143, 524287, 1048575, 2097151, 4194303, 8388607, 16777215, 33554431, 67108863, 134217727, 268435455, 536870911, 1073741823, 2147483647, 4294967295, 8589934591, 17179869183, 34359738367, 68719476735, 137438953471, 274877906943, 549755813887, 1099511627775, 2199023255551, 4398046511103, 8796093022207, 17592186044415, 35184372088831, 70368744177663, 140737488355327, 281474976710655]
theorem spec_l4Fields.tab1 : rtab .any (opsOf Tryd.f52 1) = spec_l4Fields.T1 := by kernel_rfl
theorem spec_l4Fields.bits1 : waitsOk spec_l4Fields.T1.2 spec_l4Fields.B1 = true := by kernel_rfl
set_option maxHeartbeats 8000000 in
set_option maxRecDepth 100000 in
theorem spec_l4Fields.calls (k : Nat) (a0_0 : Int) (a0_1 : Int) (a0_2 : Int) (a0_3 : Int) (a0_4 : Int) (a0_5 : Int) (a0_6 : Int) (r : Bool) (w : World) (h : spec_l4Fields.f k a0_0 a0_1 a0_2 a0_3 a0_4 a0_5 a0_6 = some r) :
  Calls Tryd.prog 52 #[.agg #[.int .i64 a0_0, .int .i64 a0_1, .int .i64 a0_2, .int .i64 a0_3, .int .i64 a0_4, .int .i64 a0_5, .int .i64 a0_6]] w fun e w' => e = .returned (.bool r) ∧ Below w.heap.size w w' := by
 have hu24 := Tryd.underlying24
 have HB := aM (Below.refl w.heap.size w)
 have H : (if a0_2 ≥ 1 then ((spec_DaysOf.f k a0_0 a0_1).bind fun t239 => (if a0_2 ≤ t239 then (if a0_3 ≥ 0 then (if a0_3 ≤ 23 then (if a0_4 ≥ 0 then (if a0_4 ≤ 59 then (if a0_5 ≥ 0 then (if a0_5 ≤ 59 then ((spec_l4Zone.f a0_6).bind fun t240 => (some t240)) else (some false)) else (some false)) else (some false)) else (some false)) else (some false)) else (some false)) else (some false))) else (some false)) = some r := h
 clear h
 by_cases c2 : a0_2 ≥ 1
 rotate_left
 ·rw [if_neg c2] at H
  have c2b0 : decide (1 ≤ a0_2) = false := decide_eq_false c2
  clear c2
  obtain rfl := Option.some.inj H
  go_enter Tryd.func52, Tryd.ntmps52
  try go_wp2_with (first | ((with_reducible refine gate_dst (N := 1) rfl ?_); refine box_event ?hg (N := 1) ?hd (cs := #[.int .i64 a0_0, .int .i64 a0_1, .int .i64 a0_2, .int .i64 a0_3, .int .i64 a0_4, .int .i64 a0_5, .int .i64 a0_6]) (t := 24) ?hr ?_; (case hd => rfl); (case hg => rfl); (case hr => first | (go_simp; done) | (go_simp; rfl)); intro gb238 hg w36 hbox hb; have n0_ := aM (below_step (by repeat (with_reducible first | exact HB.out | apply Be | apply Bc | apply Bd)) hb); have n1_ := aM (hbox); have n2_ := aM ((by rw [hg]; exact (below_size (by repeat (with_reducible first | exact HB.out | apply Be | apply Bc | apply Bd))) : w.heap.size ≤ gb238)); have n3_ := n2_; clear HB; have HB := n0_; have BK238 := n1_; have GW238 := n2_; have GE238 := n3_; clear n0_ n1_ n2_ n3_; clear hb hbox hg))
  have n0_ := aM (Bh BK238.out)
  have n1_ := aM (Bd HB.out)
  clear BK238
  clear HB
  have BK238 := n0_
  have HB := n1_
  clear n0_ n1_
  refine start_ (n := 49) (S := fun w' => w'.cell? ⟨gb238, 0, none⟩ = some (.int .i64 a0_0) ∧ w'.cell? ⟨gb238, 1, none⟩ = some (.int .i64 a0_1) ∧ w'.cell? ⟨gb238, 2, none⟩ = some (.int .i64 a0_2) ∧ w'.cell? ⟨gb238, 3, none⟩ = some (.int .i64 a0_3) ∧ w'.cell? ⟨gb238, 4, none⟩ = some (.int .i64 a0_4) ∧ w'.cell? ⟨gb238, 5, none⟩ = some (.int .i64 a0_5) ∧ w'.cell? ⟨gb238, 6, none⟩ = some (.int .i64 a0_6)) (ds := []) #[X,X,X,X,X,X,X,X,X,X,X,X,X,X,X,X,X,X,X,X,X,X,X,X,X,X,X,X,X,X,X,X,X,X,X,X,X,X,X,X,X,X,X,X,X,X,X,X,X] (by kernel_rfl) rfl rfl (c7_ BK238.out) (fun hHeld => ?_); refine with_tabW spec_l4Fields.tab1 spec_l4Fields.bits1 (fun HT_ HW_ => ?_)
  generalize w36.drew = w37 at BK238 HB hHeld ⊢
  refine ord_ 49 [(0,3,1),(1,4,3),(2,5,7),(3,6,15),(4,7,31),(5,8,63),(6,9,127),(7,10,255),(8,11,511),(9,12,1023),(10,13,2047),(11,14,4095),(12,15,8191),(13,16,16383),(14,17,32767),(15,18,65535),(16,19,131071),(17,20,262143),(18,21,524287),(19,22,1048575),(20,23,2097151),(21,24,4194303),(22,25,8388607),(23,26,16777215),(24,27,33554431),(25,28,67108863),(26,29,134217727),(27,30,268435455),(28,31,536870911),(29,32,1073741823),(30,33,2147483647),(31,34,4294967295),(32,35,8589934591),(33,36,17179869183),(34,37,34359738367),(35,38,68719476735),(36,39,137438953471),(37,40,274877906943),(38,41,549755813887),(39,42,1099511627775),(40,43,2199023255551),(41,44,4398046511103),(42,45,8796093022207),(43,46,17592186044415),(44,47,35184372088831),(45,48,70368744177663),(46,49,140737488355327),(47,50,281474976710655),(48,2,562949953421311)] ?_
  iterate 49 (first | (refine st_ (v := ?_) (a' := ?_) HT_ HW_ rfl rfl (by kernel_rfl) (fun _ _ _ h => h) (Or.inl ⟨by rfl, ?_⟩) hHeld ?_ ?_; rotate_left; (·rintro w' ⟨s0, s1, s2, s3, s4, s5, s6⟩; go_simp; (with_reducible rfl)); rotate_left; (·simp only [Act.put, sA, sZ, sS, i64_w, i32_w]; rfl)) | (refine sp_ (v := undef) (a' := ?_) HT_ rfl rfl (by kernel_rfl) (fun _ _ _ h => h) (Or.inr ⟨by rfl, rfl⟩) ?_ ?_; rotate_left; (·simp only [Act.put, sA, sZ, sS, i64_w, i32_w]; rfl)) | (refine sp_ (v := ?_) (a' := ?_) HT_ rfl rfl (by kernel_rfl) (fun _ _ _ h => h) (Or.inl ⟨by rfl, ?_⟩) ?_ ?_; rotate_left; (·intro w'; go_simp; (with_reducible rfl)); rotate_left; (·simp only [Act.put, sA, sZ, sS, i64_w, i32_w]; rfl)))
  refine done_ (done_of HT_.out (by kernel_rfl)) ?_
  try go_wp2
  go_ret
  exact ⟨by first | rfl | (simp [errW_none, errW_some] <;> rfl) | (simp [*, errW_none, errW_some] <;> rfl), by repeat (with_reducible first | exact HB.out | apply Be | apply Bc | apply Bd | refine Bs ?_ GE238.out)⟩
 rw [if_pos c2] at H
 have c2b0 : decide (1 ≤ a0_2) = true := decide_eq_true c2
 clear c2
 replace H := bI.mp H
 obtain ⟨t239, A30, H⟩ := H
 (try dsimp only at H)
 have A3 := aM A30
 clear A30
 by_cases c4 : a0_2 ≤ t239
 ·rw [if_pos c4] at H
  have c4b0 : decide (a0_2 ≤ t239) = true := decide_eq_true c4
  clear c4
  by_cases c5 : a0_3 ≥ 0
  ·rw [if_pos c5] at H
   have c5b0 : decide (0 ≤ a0_3) = true := decide_eq_true c5
   clear c5
   by_cases c6 : a0_3 ≤ 23
   ·rw [if_pos c6] at H
    have c6b0 : decide (a0_3 ≤ 23) = true := decide_eq_true c6
    clear c6
    by_cases c7 : a0_4 ≥ 0
    ·rw [if_pos c7] at H
     have c7b0 : decide (0 ≤ a0_4) = true := decide_eq_true c7
     clear c7
     by_cases c8 : a0_4 ≤ 59
     ·rw [if_pos c8] at H
      have c8b0 : decide (a0_4 ≤ 59) = true := decide_eq_true c8
      clear c8
      by_cases c9 : a0_5 ≥ 0
      ·rw [if_pos c9] at H
       have c9b0 : decide (0 ≤ a0_5) = true := decide_eq_true c9
       clear c9
       by_cases c10 : a0_5 ≤ 59
       ·rw [if_pos c10] at H
        have c10b0 : decide (a0_5 ≤ 59) = true := decide_eq_true c10
        clear c10; replace H := bI.mp H
        obtain ⟨t240, A110, H⟩ := H
        (try dsimp only at H)
        have A11 := aM A110; clear A110
        obtain rfl := Option.some.inj H
        go_enter Tryd.func52, Tryd.ntmps52
        try go_wp2_with (first | ((with_reducible refine gate_dst (N := 1) rfl ?_); refine box_event ?hg (N := 1) ?hd (cs := #[.int .i64 a0_0, .int .i64 a0_1, .int .i64 a0_2, .int .i64 a0_3, .int .i64 a0_4, .int .i64 a0_5, .int .i64 a0_6]) (t := 24) ?hr ?_; (case hd => rfl); (case hg => rfl); (case hr => first | (go_simp; done) | (go_simp; rfl)); intro gb238 hg w12 hbox hb; have n0_ := aM (below_step (by repeat (with_reducible first | exact HB.out | apply Be | apply Bc | apply Bd)) hb); have n1_ := aM (hbox); have n2_ := aM ((by rw [hg]; exact (below_size (by repeat (with_reducible first | exact HB.out | apply Be | apply Bc | apply Bd))) : w.heap.size ≤ gb238)); have n3_ := n2_; clear HB; have HB := n0_; have BK238 := n1_; have GW238 := n2_; have GE238 := n3_; clear n0_ n1_ n2_ n3_; clear hb hbox hg))
        have n0_ := aM (Bh BK238.out); have n1_ := aM (Bd HB.out); clear BK238; clear HB; have BK238 := n0_; have HB := n1_; clear n0_ n1_
        refine start_ (n := 49) (S := fun w' => w'.cell? ⟨gb238, 0, none⟩ = some (.int .i64 a0_0) ∧ w'.cell? ⟨gb238, 1, none⟩ = some (.int .i64 a0_1) ∧ w'.cell? ⟨gb238, 2, none⟩ = some (.int .i64 a0_2) ∧ w'.cell? ⟨gb238, 3, none⟩ = some (.int .i64 a0_3) ∧ w'.cell? ⟨gb238, 4, none⟩ = some (.int .i64 a0_4) ∧ w'.cell? ⟨gb238, 5, none⟩ = some (.int .i64 a0_5) ∧ w'.cell? ⟨gb238, 6, none⟩ = some (.int .i64 a0_6)) (ds := []) #[X,X,X,X,X,X,X,X,X,X,X,X,X,X,X,X,X,X,X,X,X,X,X,X,X,X,X,X,X,X,X,X,X,X,X,X,X,X,X,X,X,X,X,X,X,X,X,X,X] (by kernel_rfl) rfl rfl (c7_ BK238.out) (fun hHeld => ?_); refine with_tabW spec_l4Fields.tab1 spec_l4Fields.bits1 (fun HT_ HW_ => ?_)
        generalize w12.drew = w13 at BK238 HB hHeld ⊢
        refine ord_ 49 [(0,3,1),(1,4,3),(2,5,7),(3,6,15),(4,7,31),(6,9,95),(8,11,351),(5,8,383),(7,10,511),(9,12,1023)] ?_
        iterate 10 (first | (refine st_ (v := ?_) (a' := ?_) HT_ HW_ rfl rfl (by kernel_rfl) (fun _ _ _ h => h) (Or.inl ⟨by rfl, ?_⟩) hHeld ?_ ?_; rotate_left; (·rintro w' ⟨s0, s1, s2, s3, s4, s5, s6⟩; go_simp; (with_reducible rfl)); rotate_left; (·simp only [Act.put, sA, sZ, sS, i64_w, i32_w]; rfl)) | (refine sp_ (v := ?_) (a' := ?_) HT_ rfl rfl (by kernel_rfl) (fun _ _ _ h => h) (Or.inl ⟨by rfl, ?_⟩) ?_ ?_; rotate_left; (·intro w'; go_simp; (with_reducible rfl)); rotate_left; (·simp only [Act.put, sA, sZ, sS, i64_w, i32_w]; rfl)))
        refine one_ (i := 10) (N := some 13) (mb 49 2047) rfl rfl (one_of HT_.out (by kernel_rfl)) (by decide) (fun K hK => ?_)
        refine goes_ Tryd.func73 (by kernel_rfl) rfl #[.int .i64 a0_0, .int .i64 a0_1] (by rfl) rfl rfl (by (try simp only [mT, mC, mN]) <;> rfl) ?_
        with_reducible refine (spec_DaysOf.calls k a0_0 a0_1 t239 _ A3.out).mono ?_
        rintro e w14 ⟨rfl, hb⟩
        refine ⟨_, rfl, ?_⟩
        have n0_ := aM (blk_below (by (with_reducible repeat (first | refine Bf ?_ _ | refine Bh ?_ | refine Bg ?_ _)); exact BK238.out) hb); have n1_ := aM (below_step (by repeat (with_reducible first | exact HB.out | apply Be | apply Bc | apply Bd | refine Bs ?_ GE238.out)) hb); clear BK238; clear HB; have BK238 := n0_; have HB := n1_; clear n0_ n1_
        (try clear hb)
        (try clear hb2)
        (try clear hk)
        (try clear hi)
        refine hK.out _ _ (c7_ BK238.out) (fun hHeld => ?_)
        clear hK K
        refine norm_ (a' := ?_) ?_ ?_
        rotate_left
        ·show Act.put _ (some 13) _ = _
         simp only [Act.put, sA, sZ, sS, i64_w, i32_w]
         rfl
        refine ord_ 49 [(11,14,4095),(12,15,8191),(13,16,16383),(14,17,32767),(15,18,65535),(16,19,131071),(17,20,262143),(18,21,524287),(19,22,1048575),(20,23,2097151),(21,24,4194303),(22,25,8388607),(23,26,16777215),(24,27,33554431),(25,28,67108863),(26,29,134217727),(27,30,268435455),(28,31,536870911),(29,32,1073741823),(30,33,2147483647),(31,34,4294967295),(32,35,8589934591),(33,36,17179869183),(34,37,34359738367),(35,38,68719476735),(36,39,137438953471),(37,40,274877906943),(38,41,549755813887),(39,42,1099511627775),(40,43,2199023255551),(41,44,4398046511103),(42,45,8796093022207),(43,46,17592186044415),(44,47,35184372088831),(45,48,70368744177663)] ?_
        iterate 35 (first | (refine st_ (v := ?_) (a' := ?_) HT_ HW_ rfl rfl (by kernel_rfl) (fun _ _ _ h => h) (Or.inl ⟨by rfl, ?_⟩) hHeld ?_ ?_; rotate_left; (·rintro w' ⟨s0, s1, s2, s3, s4, s5, s6⟩; go_simp; (with_reducible rfl)); rotate_left; (·simp only [Act.put, sA, sZ, sS, i64_w, i32_w]; rfl)) | (refine sp_ (v := ?_) (a' := ?_) HT_ rfl rfl (by kernel_rfl) (fun _ _ _ h => h) (Or.inl ⟨by rfl, ?_⟩) ?_ ?_; rotate_left; (·intro w'; go_simp; (with_reducible rfl)); rotate_left; (·simp only [Act.put, sA, sZ, sS, i64_w, i32_w]; rfl)))
        refine one_ (i := 46) (N := some 49) (mb 49 140737488355327) rfl rfl (one_of HT_.out (by kernel_rfl)) (by decide) (fun K hK => ?_)
        refine goes_ Tryd.func74 (by kernel_rfl) rfl #[.int .i64 a0_6] (by rfl) rfl rfl (by (try simp only [mT, mC, mN]) <;> rfl) ?_
        with_reducible refine (spec_l4Zone.calls a0_6 t240 _ A11.out).mono ?_
        rintro e w' ⟨rfl, ⟨nd, rfl⟩⟩
        refine ⟨_, rfl, ?_⟩
        refine hK.out _ _ (c7_ BK238.out) (fun hHeld => ?_)
        clear hK K
        refine norm_ (a' := ?_) ?_ ?_
        rotate_left
        ·show Act.put _ (some 49) _ = _
         simp only [Act.put, sA, sZ, sS, i64_w, i32_w]
         rfl
        refine ord_ 49 [(47,50,281474976710655),(48,2,562949953421311)] ?_
        iterate 2 (refine sp_ (v := ?_) (a' := ?_) HT_ rfl rfl (by kernel_rfl) (fun _ _ _ h => h) (Or.inl ⟨by rfl, ?_⟩) ?_ ?_; rotate_left; (·intro w'; go_simp; (with_reducible rfl)); rotate_left; (·simp only [Act.put, sA, sZ, sS, i64_w, i32_w]; rfl))
        refine done_ (done_of HT_.out (by kernel_rfl)) ?_
        try go_wp2
        go_ret
        exact ⟨by first | rfl | (simp [errW_none, errW_some] <;> rfl) | (simp [*, errW_none, errW_some] <;> rfl), by repeat (with_reducible first | exact HB.out | apply Be | apply Bc | apply Bd | refine Bs ?_ GE238.out)⟩
       rw [if_neg c10] at H
       have c10b0 : decide (a0_5 ≤ 59) = false := decide_eq_false c10
       clear c10
       obtain rfl := Option.some.inj H
       go_enter Tryd.func52, Tryd.ntmps52
       try go_wp2_with (first | ((with_reducible refine gate_dst (N := 1) rfl ?_); refine box_event ?hg (N := 1) ?hd (cs := #[.int .i64 a0_0, .int .i64 a0_1, .int .i64 a0_2, .int .i64 a0_3, .int .i64 a0_4, .int .i64 a0_5, .int .i64 a0_6]) (t := 24) ?hr ?_; (case hd => rfl); (case hg => rfl); (case hr => first | (go_simp; done) | (go_simp; rfl)); intro gb238 hg w15 hbox hb; have n0_ := aM (below_step (by repeat (with_reducible first | exact HB.out | apply Be | apply Bc | apply Bd)) hb); have n1_ := aM (hbox); have n2_ := aM ((by rw [hg]; exact (below_size (by repeat (with_reducible first | exact HB.out | apply Be | apply Bc | apply Bd))) : w.heap.size ≤ gb238)); have n3_ := n2_; clear HB; have HB := n0_; have BK238 := n1_; have GW238 := n2_; have GE238 := n3_; clear n0_ n1_ n2_ n3_; clear hb hbox hg))
       have n0_ := aM (Bh BK238.out); have n1_ := aM (Bd HB.out); clear BK238; clear HB; have BK238 := n0_; have HB := n1_; clear n0_ n1_
       refine start_ (n := 49) (S := fun w' => w'.cell? ⟨gb238, 0, none⟩ = some (.int .i64 a0_0) ∧ w'.cell? ⟨gb238, 1, none⟩ = some (.int .i64 a0_1) ∧ w'.cell? ⟨gb238, 2, none⟩ = some (.int .i64 a0_2) ∧ w'.cell? ⟨gb238, 3, none⟩ = some (.int .i64 a0_3) ∧ w'.cell? ⟨gb238, 4, none⟩ = some (.int .i64 a0_4) ∧ w'.cell? ⟨gb238, 5, none⟩ = some (.int .i64 a0_5) ∧ w'.cell? ⟨gb238, 6, none⟩ = some (.int .i64 a0_6)) (ds := []) #[X,X,X,X,X,X,X,X,X,X,X,X,X,X,X,X,X,X,X,X,X,X,X,X,X,X,X,X,X,X,X,X,X,X,X,X,X,X,X,X,X,X,X,X,X,X,X,X,X] (by kernel_rfl) rfl rfl (c7_ BK238.out) (fun hHeld => ?_); refine with_tabW spec_l4Fields.tab1 spec_l4Fields.bits1 (fun HT_ HW_ => ?_)
       generalize w15.drew = w16 at BK238 HB hHeld ⊢
       refine ord_ 49 [(0,3,1),(1,4,3),(2,5,7),(3,6,15),(4,7,31),(6,9,95),(8,11,351),(5,8,383),(7,10,511),(9,12,1023)] ?_
       iterate 10 (first | (refine st_ (v := ?_) (a' := ?_) HT_ HW_ rfl rfl (by kernel_rfl) (fun _ _ _ h => h) (Or.inl ⟨by rfl, ?_⟩) hHeld ?_ ?_; rotate_left; (·rintro w' ⟨s0, s1, s2, s3, s4, s5, s6⟩; go_simp; (with_reducible rfl)); rotate_left; (·simp only [Act.put, sA, sZ, sS, i64_w, i32_w]; rfl)) | (refine sp_ (v := ?_) (a' := ?_) HT_ rfl rfl (by kernel_rfl) (fun _ _ _ h => h) (Or.inl ⟨by rfl, ?_⟩) ?_ ?_; rotate_left; (·intro w'; go_simp; (with_reducible rfl)); rotate_left; (·simp only [Act.put, sA, sZ, sS, i64_w, i32_w]; rfl)))
       refine one_ (i := 10) (N := some 13) (mb 49 2047) rfl rfl (one_of HT_.out (by kernel_rfl)) (by decide) (fun K hK => ?_)
       refine goes_ Tryd.func73 (by kernel_rfl) rfl #[.int .i64 a0_0, .int .i64 a0_1] (by rfl) rfl rfl (by (try simp only [mT, mC, mN]) <;> rfl) ?_
       with_reducible refine (spec_DaysOf.calls k a0_0 a0_1 t239 _ A3.out).mono ?_
       rintro e w17 ⟨rfl, hb⟩
       refine ⟨_, rfl, ?_⟩
       have n0_ := aM (blk_below (by (with_reducible repeat (first | refine Bf ?_ _ | refine Bh ?_ | refine Bg ?_ _)); exact BK238.out) hb); have n1_ := aM (below_step (by repeat (with_reducible first | exact HB.out | apply Be | apply Bc | apply Bd | refine Bs ?_ GE238.out)) hb); clear BK238; clear HB; have BK238 := n0_; have HB := n1_; clear n0_ n1_
       (try clear hb)
       (try clear hb2)
       (try clear hk)
       (try clear hi)
       refine hK.out _ _ (c7_ BK238.out) (fun hHeld => ?_)
       clear hK K
       refine norm_ (a' := ?_) ?_ ?_
       rotate_left
       ·show Act.put _ (some 13) _ = _
        simp only [Act.put, sA, sZ, sS, i64_w, i32_w]
        rfl
       refine ord_ 49 [(11,14,4095),(12,15,8191),(13,16,16383),(14,17,32767),(15,18,65535),(16,19,131071),(17,20,262143),(18,21,524287),(19,22,1048575),(20,23,2097151),(21,24,4194303),(22,25,8388607),(23,26,16777215),(24,27,33554431),(25,28,67108863),(26,29,134217727),(27,30,268435455),(28,31,536870911),(29,32,1073741823),(30,33,2147483647),(31,34,4294967295),(32,35,8589934591),(33,36,17179869183),(34,37,34359738367),(35,38,68719476735),(36,39,137438953471),(37,40,274877906943),(38,41,549755813887),(39,42,1099511627775),(40,43,2199023255551),(41,44,4398046511103),(42,45,8796093022207),(43,46,17592186044415),(44,47,35184372088831),(45,48,70368744177663),(46,49,140737488355327),(47,50,281474976710655),(48,2,562949953421311)] ?_
       iterate 38 (first | (refine st_ (v := ?_) (a' := ?_) HT_ HW_ rfl rfl (by kernel_rfl) (fun _ _ _ h => h) (Or.inl ⟨by rfl, ?_⟩) hHeld ?_ ?_; rotate_left; (·rintro w' ⟨s0, s1, s2, s3, s4, s5, s6⟩; go_simp; (with_reducible rfl)); rotate_left; (·simp only [Act.put, sA, sZ, sS, i64_w, i32_w]; rfl)) | (refine sp_ (v := undef) (a' := ?_) HT_ rfl rfl (by kernel_rfl) (fun _ _ _ h => h) (Or.inr ⟨by rfl, rfl⟩) ?_ ?_; rotate_left; (·simp only [Act.put, sA, sZ, sS, i64_w, i32_w]; rfl)) | (refine sp_ (v := ?_) (a' := ?_) HT_ rfl rfl (by kernel_rfl) (fun _ _ _ h => h) (Or.inl ⟨by rfl, ?_⟩) ?_ ?_; rotate_left; (·intro w'; go_simp; (with_reducible rfl)); rotate_left; (·simp only [Act.put, sA, sZ, sS, i64_w, i32_w]; rfl)))
       refine done_ (done_of HT_.out (by kernel_rfl)) ?_
       try go_wp2
       go_ret
       exact ⟨by first | rfl | (simp [errW_none, errW_some] <;> rfl) | (simp [*, errW_none, errW_some] <;> rfl), by repeat (with_reducible first | exact HB.out | apply Be | apply Bc | apply Bd | refine Bs ?_ GE238.out)⟩
      rw [if_neg c9] at H
      have c9b0 : decide (0 ≤ a0_5) = false := decide_eq_false c9
      clear c9
      obtain rfl := Option.some.inj H
      go_enter Tryd.func52, Tryd.ntmps52
      try go_wp2_with (first | ((with_reducible refine gate_dst (N := 1) rfl ?_); refine box_event ?hg (N := 1) ?hd (cs := #[.int .i64 a0_0, .int .i64 a0_1, .int .i64 a0_2, .int .i64 a0_3, .int .i64 a0_4, .int .i64 a0_5, .int .i64 a0_6]) (t := 24) ?hr ?_; (case hd => rfl); (case hg => rfl); (case hr => first | (go_simp; done) | (go_simp; rfl)); intro gb238 hg w18 hbox hb; have n0_ := aM (below_step (by repeat (with_reducible first | exact HB.out | apply Be | apply Bc | apply Bd)) hb); have n1_ := aM (hbox); have n2_ := aM ((by rw [hg]; exact (below_size (by repeat (with_reducible first | exact HB.out | apply Be | apply Bc | apply Bd))) : w.heap.size ≤ gb238)); have n3_ := n2_; clear HB; have HB := n0_; have BK238 := n1_; have GW238 := n2_; have GE238 := n3_; clear n0_ n1_ n2_ n3_; clear hb hbox hg))
      have n0_ := aM (Bh BK238.out); have n1_ := aM (Bd HB.out); clear BK238; clear HB; have BK238 := n0_; have HB := n1_; clear n0_ n1_
      refine start_ (n := 49) (S := fun w' => w'.cell? ⟨gb238, 0, none⟩ = some (.int .i64 a0_0) ∧ w'.cell? ⟨gb238, 1, none⟩ = some (.int .i64 a0_1) ∧ w'.cell? ⟨gb238, 2, none⟩ = some (.int .i64 a0_2) ∧ w'.cell? ⟨gb238, 3, none⟩ = some (.int .i64 a0_3) ∧ w'.cell? ⟨gb238, 4, none⟩ = some (.int .i64 a0_4) ∧ w'.cell? ⟨gb238, 5, none⟩ = some (.int .i64 a0_5) ∧ w'.cell? ⟨gb238, 6, none⟩ = some (.int .i64 a0_6)) (ds := []) #[X,X,X,X,X,X,X,X,X,X,X,X,X,X,X,X,X,X,X,X,X,X,X,X,X,X,X,X,X,X,X,X,X,X,X,X,X,X,X,X,X,X,X,X,X,X,X,X,X] (by kernel_rfl) rfl rfl (c7_ BK238.out) (fun hHeld => ?_); refine with_tabW spec_l4Fields.tab1 spec_l4Fields.bits1 (fun HT_ HW_ => ?_)
      generalize w18.drew = w19 at BK238 HB hHeld ⊢
      refine ord_ 49 [(0,3,1),(1,4,3),(2,5,7),(3,6,15),(4,7,31),(6,9,95),(8,11,351),(5,8,383),(7,10,511),(9,12,1023)] ?_
      iterate 10 (first | (refine st_ (v := ?_) (a' := ?_) HT_ HW_ rfl rfl (by kernel_rfl) (fun _ _ _ h => h) (Or.inl ⟨by rfl, ?_⟩) hHeld ?_ ?_; rotate_left; (·rintro w' ⟨s0, s1, s2, s3, s4, s5, s6⟩; go_simp; (with_reducible rfl)); rotate_left; (·simp only [Act.put, sA, sZ, sS, i64_w, i32_w]; rfl)) | (refine sp_ (v := ?_) (a' := ?_) HT_ rfl rfl (by kernel_rfl) (fun _ _ _ h => h) (Or.inl ⟨by rfl, ?_⟩) ?_ ?_; rotate_left; (·intro w'; go_simp; (with_reducible rfl)); rotate_left; (·simp only [Act.put, sA, sZ, sS, i64_w, i32_w]; rfl)))
      refine one_ (i := 10) (N := some 13) (mb 49 2047) rfl rfl (one_of HT_.out (by kernel_rfl)) (by decide) (fun K hK => ?_)
      refine goes_ Tryd.func73 (by kernel_rfl) rfl #[.int .i64 a0_0, .int .i64 a0_1] (by rfl) rfl rfl (by (try simp only [mT, mC, mN]) <;> rfl) ?_
      with_reducible refine (spec_DaysOf.calls k a0_0 a0_1 t239 _ A3.out).mono ?_
      rintro e w20 ⟨rfl, hb⟩
      refine ⟨_, rfl, ?_⟩
      have n0_ := aM (blk_below (by (with_reducible repeat (first | refine Bf ?_ _ | refine Bh ?_ | refine Bg ?_ _)); exact BK238.out) hb); have n1_ := aM (below_step (by repeat (with_reducible first | exact HB.out | apply Be | apply Bc | apply Bd | refine Bs ?_ GE238.out)) hb); clear BK238; clear HB; have BK238 := n0_; have HB := n1_; clear n0_ n1_
      (try clear hb)
      (try clear hb2)
      (try clear hk)
      (try clear hi)
      refine hK.out _ _ (c7_ BK238.out) (fun hHeld => ?_)
      clear hK K
      refine norm_ (a' := ?_) ?_ ?_
      rotate_left
      ·show Act.put _ (some 13) _ = _
       simp only [Act.put, sA, sZ, sS, i64_w, i32_w]
       rfl
      refine ord_ 49 [(11,14,4095),(12,15,8191),(13,16,16383),(14,17,32767),(15,18,65535),(16,19,131071),(17,20,262143),(18,21,524287),(19,22,1048575),(20,23,2097151),(21,24,4194303),(22,25,8388607),(23,26,16777215),(24,27,33554431),(25,28,67108863),(26,29,134217727),(27,30,268435455),(28,31,536870911),(29,32,1073741823),(30,33,2147483647),(31,34,4294967295),(32,35,8589934591),(33,36,17179869183),(34,37,34359738367),(35,38,68719476735),(36,39,137438953471),(37,40,274877906943),(38,41,549755813887),(39,42,1099511627775),(40,43,2199023255551),(41,44,4398046511103),(42,45,8796093022207),(43,46,17592186044415),(44,47,35184372088831),(45,48,70368744177663),(46,49,140737488355327),(47,50,281474976710655),(48,2,562949953421311)] ?_
      iterate 38 (first | (refine st_ (v := ?_) (a' := ?_) HT_ HW_ rfl rfl (by kernel_rfl) (fun _ _ _ h => h) (Or.inl ⟨by rfl, ?_⟩) hHeld ?_ ?_; rotate_left; (·rintro w' ⟨s0, s1, s2, s3, s4, s5, s6⟩; go_simp; (with_reducible rfl)); rotate_left; (·simp only [Act.put, sA, sZ, sS, i64_w, i32_w]; rfl)) | (refine sp_ (v := undef) (a' := ?_) HT_ rfl rfl (by kernel_rfl) (fun _ _ _ h => h) (Or.inr ⟨by rfl, rfl⟩) ?_ ?_; rotate_left; (·simp only [Act.put, sA, sZ, sS, i64_w, i32_w]; rfl)) | (refine sp_ (v := ?_) (a' := ?_) HT_ rfl rfl (by kernel_rfl) (fun _ _ _ h => h) (Or.inl ⟨by rfl, ?_⟩) ?_ ?_; rotate_left; (·intro w'; go_simp; (with_reducible rfl)); rotate_left; (·simp only [Act.put, sA, sZ, sS, i64_w, i32_w]; rfl)))
      refine done_ (done_of HT_.out (by kernel_rfl)) ?_
      try go_wp2
      go_ret
      exact ⟨by first | rfl | (simp [errW_none, errW_some] <;> rfl) | (simp [*, errW_none, errW_some] <;> rfl), by repeat (with_reducible first | exact HB.out | apply Be | apply Bc | apply Bd | refine Bs ?_ GE238.out)⟩
     rw [if_neg c8] at H
     have c8b0 : decide (a0_4 ≤ 59) = false := decide_eq_false c8
     clear c8
     obtain rfl := Option.some.inj H
     go_enter Tryd.func52, Tryd.ntmps52
     try go_wp2_with (first | ((with_reducible refine gate_dst (N := 1) rfl ?_); refine box_event ?hg (N := 1) ?hd (cs := #[.int .i64 a0_0, .int .i64 a0_1, .int .i64 a0_2, .int .i64 a0_3, .int .i64 a0_4, .int .i64 a0_5, .int .i64 a0_6]) (t := 24) ?hr ?_; (case hd => rfl); (case hg => rfl); (case hr => first | (go_simp; done) | (go_simp; rfl)); intro gb238 hg w21 hbox hb; have n0_ := aM (below_step (by repeat (with_reducible first | exact HB.out | apply Be | apply Bc | apply Bd)) hb); have n1_ := aM (hbox); have n2_ := aM ((by rw [hg]; exact (below_size (by repeat (with_reducible first | exact HB.out | apply Be | apply Bc | apply Bd))) : w.heap.size ≤ gb238)); have n3_ := n2_; clear HB; have HB := n0_; have BK238 := n1_; have GW238 := n2_; have GE238 := n3_; clear n0_ n1_ n2_ n3_; clear hb hbox hg))
     have n0_ := aM (Bh BK238.out); have n1_ := aM (Bd HB.out); clear BK238; clear HB; have BK238 := n0_; have HB := n1_; clear n0_ n1_
     refine start_ (n := 49) (S := fun w' => w'.cell? ⟨gb238, 0, none⟩ = some (.int .i64 a0_0) ∧ w'.cell? ⟨gb238, 1, none⟩ = some (.int .i64 a0_1) ∧ w'.cell? ⟨gb238, 2, none⟩ = some (.int .i64 a0_2) ∧ w'.cell? ⟨gb238, 3, none⟩ = some (.int .i64 a0_3) ∧ w'.cell? ⟨gb238, 4, none⟩ = some (.int .i64 a0_4) ∧ w'.cell? ⟨gb238, 5, none⟩ = some (.int .i64 a0_5) ∧ w'.cell? ⟨gb238, 6, none⟩ = some (.int .i64 a0_6)) (ds := []) #[X,X,X,X,X,X,X,X,X,X,X,X,X,X,X,X,X,X,X,X,X,X,X,X,X,X,X,X,X,X,X,X,X,X,X,X,X,X,X,X,X,X,X,X,X,X,X,X,X] (by kernel_rfl) rfl rfl (c7_ BK238.out) (fun hHeld => ?_); refine with_tabW spec_l4Fields.tab1 spec_l4Fields.bits1 (fun HT_ HW_ => ?_)
     generalize w21.drew = w22 at BK238 HB hHeld ⊢
     refine ord_ 49 [(0,3,1),(1,4,3),(2,5,7),(3,6,15),(4,7,31),(6,9,95),(8,11,351),(5,8,383),(7,10,511),(9,12,1023)] ?_
     iterate 10 (first | (refine st_ (v := ?_) (a' := ?_) HT_ HW_ rfl rfl (by kernel_rfl) (fun _ _ _ h => h) (Or.inl ⟨by rfl, ?_⟩) hHeld ?_ ?_; rotate_left; (·rintro w' ⟨s0, s1, s2, s3, s4, s5, s6⟩; go_simp; (with_reducible rfl)); rotate_left; (·simp only [Act.put, sA, sZ, sS, i64_w, i32_w]; rfl)) | (refine sp_ (v := ?_) (a' := ?_) HT_ rfl rfl (by kernel_rfl) (fun _ _ _ h => h) (Or.inl ⟨by rfl, ?_⟩) ?_ ?_; rotate_left; (·intro w'; go_simp; (with_reducible rfl)); rotate_left; (·simp only [Act.put, sA, sZ, sS, i64_w, i32_w]; rfl)))
     refine one_ (i := 10) (N := some 13) (mb 49 2047) rfl rfl (one_of HT_.out (by kernel_rfl)) (by decide) (fun K hK => ?_)
     refine goes_ Tryd.func73 (by kernel_rfl) rfl #[.int .i64 a0_0, .int .i64 a0_1] (by rfl) rfl rfl (by (try simp only [mT, mC, mN]) <;> rfl) ?_
     with_reducible refine (spec_DaysOf.calls k a0_0 a0_1 t239 _ A3.out).mono ?_
     rintro e w23 ⟨rfl, hb⟩
     refine ⟨_, rfl, ?_⟩
     have n0_ := aM (blk_below (by (with_reducible repeat (first | refine Bf ?_ _ | refine Bh ?_ | refine Bg ?_ _)); exact BK238.out) hb); have n1_ := aM (below_step (by repeat (with_reducible first | exact HB.out | apply Be | apply Bc | apply Bd | refine Bs ?_ GE238.out)) hb); clear BK238; clear HB; have BK238 := n0_; have HB := n1_; clear n0_ n1_
     (try clear hb)
     (try clear hb2)
     (try clear hk)
     (try clear hi)
     refine hK.out _ _ (c7_ BK238.out) (fun hHeld => ?_)
     clear hK K
     refine norm_ (a' := ?_) ?_ ?_
     rotate_left
     ·show Act.put _ (some 13) _ = _
      simp only [Act.put, sA, sZ, sS, i64_w, i32_w]
      rfl
     refine ord_ 49 [(11,14,4095),(12,15,8191),(13,16,16383),(14,17,32767),(15,18,65535),(16,19,131071),(17,20,262143),(18,21,524287),(19,22,1048575),(20,23,2097151),(21,24,4194303),(22,25,8388607),(23,26,16777215),(24,27,33554431),(25,28,67108863),(26,29,134217727),(27,30,268435455),(28,31,536870911),(29,32,1073741823),(30,33,2147483647),(31,34,4294967295),(32,35,8589934591),(33,36,17179869183),(34,37,34359738367),(35,38,68719476735),(36,39,137438953471),(37,40,274877906943),(38,41,549755813887),(39,42,1099511627775),(40,43,2199023255551),(41,44,4398046511103),(42,45,8796093022207),(43,46,17592186044415),(44,47,35184372088831),(45,48,70368744177663),(46,49,140737488355327),(47,50,281474976710655),(48,2,562949953421311)] ?_
     iterate 38 (first | (refine st_ (v := ?_) (a' := ?_) HT_ HW_ rfl rfl (by kernel_rfl) (fun _ _ _ h => h) (Or.inl ⟨by rfl, ?_⟩) hHeld ?_ ?_; rotate_left; (·rintro w' ⟨s0, s1, s2, s3, s4, s5, s6⟩; go_simp; (with_reducible rfl)); rotate_left; (·simp only [Act.put, sA, sZ, sS, i64_w, i32_w]; rfl)) | (refine sp_ (v := undef) (a' := ?_) HT_ rfl rfl (by kernel_rfl) (fun _ _ _ h => h) (Or.inr ⟨by rfl, rfl⟩) ?_ ?_; rotate_left; (·simp only [Act.put, sA, sZ, sS, i64_w, i32_w]; rfl)) | (refine sp_ (v := ?_) (a' := ?_) HT_ rfl rfl (by kernel_rfl) (fun _ _ _ h => h) (Or.inl ⟨by rfl, ?_⟩) ?_ ?_; rotate_left; (·intro w'; go_simp; (with_reducible rfl)); rotate_left; (·simp only [Act.put, sA, sZ, sS, i64_w, i32_w]; rfl)))
     refine done_ (done_of HT_.out (by kernel_rfl)) ?_
     try go_wp2
     go_ret
     exact ⟨by first | rfl | (simp [errW_none, errW_some] <;> rfl) | (simp [*, errW_none, errW_some] <;> rfl), by repeat (with_reducible first | exact HB.out | apply Be | apply Bc | apply Bd | refine Bs ?_ GE238.out)⟩
    rw [if_neg c7] at H
    have c7b0 : decide (0 ≤ a0_4) = false := decide_eq_false c7
    clear c7
    obtain rfl := Option.some.inj H
    go_enter Tryd.func52, Tryd.ntmps52
    try go_wp2_with (first | ((with_reducible refine gate_dst (N := 1) rfl ?_); refine box_event ?hg (N := 1) ?hd (cs := #[.int .i64 a0_0, .int .i64 a0_1, .int .i64 a0_2, .int .i64 a0_3, .int .i64 a0_4, .int .i64 a0_5, .int .i64 a0_6]) (t := 24) ?hr ?_; (case hd => rfl); (case hg => rfl); (case hr => first | (go_simp; done) | (go_simp; rfl)); intro gb238 hg w24 hbox hb; have n0_ := aM (below_step (by repeat (with_reducible first | exact HB.out | apply Be | apply Bc | apply Bd)) hb); have n1_ := aM (hbox); have n2_ := aM ((by rw [hg]; exact (below_size (by repeat (with_reducible first | exact HB.out | apply Be | apply Bc | apply Bd))) : w.heap.size ≤ gb238)); have n3_ := n2_; clear HB; have HB := n0_; have BK238 := n1_; have GW238 := n2_; have GE238 := n3_; clear n0_ n1_ n2_ n3_; clear hb hbox hg))
    have n0_ := aM (Bh BK238.out); have n1_ := aM (Bd HB.out); clear BK238; clear HB; have BK238 := n0_; have HB := n1_; clear n0_ n1_
    refine start_ (n := 49) (S := fun w' => w'.cell? ⟨gb238, 0, none⟩ = some (.int .i64 a0_0) ∧ w'.cell? ⟨gb238, 1, none⟩ = some (.int .i64 a0_1) ∧ w'.cell? ⟨gb238, 2, none⟩ = some (.int .i64 a0_2) ∧ w'.cell? ⟨gb238, 3, none⟩ = some (.int .i64 a0_3) ∧ w'.cell? ⟨gb238, 4, none⟩ = some (.int .i64 a0_4) ∧ w'.cell? ⟨gb238, 5, none⟩ = some (.int .i64 a0_5) ∧ w'.cell? ⟨gb238, 6, none⟩ = some (.int .i64 a0_6)) (ds := []) #[X,X,X,X,X,X,X,X,X,X,X,X,X,X,X,X,X,X,X,X,X,X,X,X,X,X,X,X,X,X,X,X,X,X,X,X,X,X,X,X,X,X,X,X,X,X,X,X,X] (by kernel_rfl) rfl rfl (c7_ BK238.out) (fun hHeld => ?_); refine with_tabW spec_l4Fields.tab1 spec_l4Fields.bits1 (fun HT_ HW_ => ?_)
    generalize w24.drew = w25 at BK238 HB hHeld ⊢
    refine ord_ 49 [(0,3,1),(1,4,3),(2,5,7),(3,6,15),(4,7,31),(6,9,95),(8,11,351),(5,8,383),(7,10,511),(9,12,1023)] ?_
    iterate 10 (first | (refine st_ (v := ?_) (a' := ?_) HT_ HW_ rfl rfl (by kernel_rfl) (fun _ _ _ h => h) (Or.inl ⟨by rfl, ?_⟩) hHeld ?_ ?_; rotate_left; (·rintro w' ⟨s0, s1, s2, s3, s4, s5, s6⟩; go_simp; (with_reducible rfl)); rotate_left; (·simp only [Act.put, sA, sZ, sS, i64_w, i32_w]; rfl)) | (refine sp_ (v := ?_) (a' := ?_) HT_ rfl rfl (by kernel_rfl) (fun _ _ _ h => h) (Or.inl ⟨by rfl, ?_⟩) ?_ ?_; rotate_left; (·intro w'; go_simp; (with_reducible rfl)); rotate_left; (·simp only [Act.put, sA, sZ, sS, i64_w, i32_w]; rfl)))
    refine one_ (i := 10) (N := some 13) (mb 49 2047) rfl rfl (one_of HT_.out (by kernel_rfl)) (by decide) (fun K hK => ?_)
    refine goes_ Tryd.func73 (by kernel_rfl) rfl #[.int .i64 a0_0, .int .i64 a0_1] (by rfl) rfl rfl (by (try simp only [mT, mC, mN]) <;> rfl) ?_
    with_reducible refine (spec_DaysOf.calls k a0_0 a0_1 t239 _ A3.out).mono ?_
    rintro e w26 ⟨rfl, hb⟩
    refine ⟨_, rfl, ?_⟩
    have n0_ := aM (blk_below (by (with_reducible repeat (first | refine Bf ?_ _ | refine Bh ?_ | refine Bg ?_ _)); exact BK238.out) hb); have n1_ := aM (below_step (by repeat (with_reducible first | exact HB.out | apply Be | apply Bc | apply Bd | refine Bs ?_ GE238.out)) hb); clear BK238; clear HB; have BK238 := n0_; have HB := n1_; clear n0_ n1_
    (try clear hb)
    (try clear hb2)
    (try clear hk)
    (try clear hi)
    refine hK.out _ _ (c7_ BK238.out) (fun hHeld => ?_)
    clear hK K
    refine norm_ (a' := ?_) ?_ ?_
    rotate_left
    ·show Act.put _ (some 13) _ = _
     simp only [Act.put, sA, sZ, sS, i64_w, i32_w]
     rfl
    refine ord_ 49 [(11,14,4095),(12,15,8191),(13,16,16383),(14,17,32767),(15,18,65535),(16,19,131071),(17,20,262143),(18,21,524287),(19,22,1048575),(20,23,2097151),(21,24,4194303),(22,25,8388607),(23,26,16777215),(24,27,33554431),(25,28,67108863),(26,29,134217727),(27,30,268435455),(28,31,536870911),(29,32,1073741823),(30,33,2147483647),(31,34,4294967295),(32,35,8589934591),(33,36,17179869183),(34,37,34359738367),(35,38,68719476735),(36,39,137438953471),(37,40,274877906943),(38,41,549755813887),(39,42,1099511627775),(40,43,2199023255551),(41,44,4398046511103),(42,45,8796093022207),(43,46,17592186044415),(44,47,35184372088831),(45,48,70368744177663),(46,49,140737488355327),(47,50,281474976710655),(48,2,562949953421311)] ?_
    iterate 38 (first | (refine st_ (v := ?_) (a' := ?_) HT_ HW_ rfl rfl (by kernel_rfl) (fun _ _ _ h => h) (Or.inl ⟨by rfl, ?_⟩) hHeld ?_ ?_; rotate_left; (·rintro w' ⟨s0, s1, s2, s3, s4, s5, s6⟩; go_simp; (with_reducible rfl)); rotate_left; (·simp only [Act.put, sA, sZ, sS, i64_w, i32_w]; rfl)) | (refine sp_ (v := undef) (a' := ?_) HT_ rfl rfl (by kernel_rfl) (fun _ _ _ h => h) (Or.inr ⟨by rfl, rfl⟩) ?_ ?_; rotate_left; (·simp only [Act.put, sA, sZ, sS, i64_w, i32_w]; rfl)) | (refine sp_ (v := ?_) (a' := ?_) HT_ rfl rfl (by kernel_rfl) (fun _ _ _ h => h) (Or.inl ⟨by rfl, ?_⟩) ?_ ?_; rotate_left; (·intro w'; go_simp; (with_reducible rfl)); rotate_left; (·simp only [Act.put, sA, sZ, sS, i64_w, i32_w]; rfl)))
    refine done_ (done_of HT_.out (by kernel_rfl)) ?_
    try go_wp2
    go_ret
    exact ⟨by first | rfl | (simp [errW_none, errW_some] <;> rfl) | (simp [*, errW_none, errW_some] <;> rfl), by repeat (with_reducible first | exact HB.out | apply Be | apply Bc | apply Bd | refine Bs ?_ GE238.out)⟩
   rw [if_neg c6] at H
   have c6b0 : decide (a0_3 ≤ 23) = false := decide_eq_false c6
   clear c6
   obtain rfl := Option.some.inj H
   go_enter Tryd.func52, Tryd.ntmps52
   try go_wp2_with (first | ((with_reducible refine gate_dst (N := 1) rfl ?_); refine box_event ?hg (N := 1) ?hd (cs := #[.int .i64 a0_0, .int .i64 a0_1, .int .i64 a0_2, .int .i64 a0_3, .int .i64 a0_4, .int .i64 a0_5, .int .i64 a0_6]) (t := 24) ?hr ?_; (case hd => rfl); (case hg => rfl); (case hr => first | (go_simp; done) | (go_simp; rfl)); intro gb238 hg w27 hbox hb; have n0_ := aM (below_step (by repeat (with_reducible first | exact HB.out | apply Be | apply Bc | apply Bd)) hb); have n1_ := aM (hbox); have n2_ := aM ((by rw [hg]; exact (below_size (by repeat (with_reducible first | exact HB.out | apply Be | apply Bc | apply Bd))) : w.heap.size ≤ gb238)); have n3_ := n2_; clear HB; have HB := n0_; have BK238 := n1_; have GW238 := n2_; have GE238 := n3_; clear n0_ n1_ n2_ n3_; clear hb hbox hg))
   have n0_ := aM (Bh BK238.out); have n1_ := aM (Bd HB.out); clear BK238; clear HB; have BK238 := n0_; have HB := n1_; clear n0_ n1_
   refine start_ (n := 49) (S := fun w' => w'.cell? ⟨gb238, 0, none⟩ = some (.int .i64 a0_0) ∧ w'.cell? ⟨gb238, 1, none⟩ = some (.int .i64 a0_1) ∧ w'.cell? ⟨gb238, 2, none⟩ = some (.int .i64 a0_2) ∧ w'.cell? ⟨gb238, 3, none⟩ = some (.int .i64 a0_3) ∧ w'.cell? ⟨gb238, 4, none⟩ = some (.int .i64 a0_4) ∧ w'.cell? ⟨gb238, 5, none⟩ = some (.int .i64 a0_5) ∧ w'.cell? ⟨gb238, 6, none⟩ = some (.int .i64 a0_6)) (ds := []) #[X,X,X,X,X,X,X,X,X,X,X,X,X,X,X,X,X,X,X,X,X,X,X,X,X,X,X,X,X,X,X,X,X,X,X,X,X,X,X,X,X,X,X,X,X,X,X,X,X] (by kernel_rfl) rfl rfl (c7_ BK238.out) (fun hHeld => ?_); refine with_tabW spec_l4Fields.tab1 spec_l4Fields.bits1 (fun HT_ HW_ => ?_)
   generalize w27.drew = w28 at BK238 HB hHeld ⊢
   refine ord_ 49 [(0,3,1),(1,4,3),(2,5,7),(3,6,15),(4,7,31),(6,9,95),(8,11,351),(5,8,383),(7,10,511),(9,12,1023)] ?_
   iterate 10 (first | (refine st_ (v := ?_) (a' := ?_) HT_ HW_ rfl rfl (by kernel_rfl) (fun _ _ _ h => h) (Or.inl ⟨by rfl, ?_⟩) hHeld ?_ ?_; rotate_left; (·rintro w' ⟨s0, s1, s2, s3, s4, s5, s6⟩; go_simp; (with_reducible rfl)); rotate_left; (·simp only [Act.put, sA, sZ, sS, i64_w, i32_w]; rfl)) | (refine sp_ (v := ?_) (a' := ?_) HT_ rfl rfl (by kernel_rfl) (fun _ _ _ h => h) (Or.inl ⟨by rfl, ?_⟩) ?_ ?_; rotate_left; (·intro w'; go_simp; (with_reducible rfl)); rotate_left; (·simp only [Act.put, sA, sZ, sS, i64_w, i32_w]; rfl)))
   refine one_ (i := 10) (N := some 13) (mb 49 2047) rfl rfl (one_of HT_.out (by kernel_rfl)) (by decide) (fun K hK => ?_)
   refine goes_ Tryd.func73 (by kernel_rfl) rfl #[.int .i64 a0_0, .int .i64 a0_1] (by rfl) rfl rfl (by (try simp only [mT, mC, mN]) <;> rfl) ?_
   with_reducible refine (spec_DaysOf.calls k a0_0 a0_1 t239 _ A3.out).mono ?_
   rintro e w29 ⟨rfl, hb⟩
   refine ⟨_, rfl, ?_⟩
   have n0_ := aM (blk_below (by (with_reducible repeat (first | refine Bf ?_ _ | refine Bh ?_ | refine Bg ?_ _)); exact BK238.out) hb); have n1_ := aM (below_step (by repeat (with_reducible first | exact HB.out | apply Be | apply Bc | apply Bd | refine Bs ?_ GE238.out)) hb); clear BK238; clear HB; have BK238 := n0_; have HB := n1_; clear n0_ n1_
   (try clear hb)
   (try clear hb2)
   (try clear hk)
   (try clear hi)
   refine hK.out _ _ (c7_ BK238.out) (fun hHeld => ?_)
   clear hK K
   refine norm_ (a' := ?_) ?_ ?_
   rotate_left
   ·show Act.put _ (some 13) _ = _
    simp only [Act.put, sA, sZ, sS, i64_w, i32_w]
    rfl
   refine ord_ 49 [(11,14,4095),(12,15,8191),(13,16,16383),(14,17,32767),(15,18,65535),(16,19,131071),(17,20,262143),(18,21,524287),(19,22,1048575),(20,23,2097151),(21,24,4194303),(22,25,8388607),(23,26,16777215),(24,27,33554431),(25,28,67108863),(26,29,134217727),(27,30,268435455),(28,31,536870911),(29,32,1073741823),(30,33,2147483647),(31,34,4294967295),(32,35,8589934591),(33,36,17179869183),(34,37,34359738367),(35,38,68719476735),(36,39,137438953471),(37,40,274877906943),(38,41,549755813887),(39,42,1099511627775),(40,43,2199023255551),(41,44,4398046511103),(42,45,8796093022207),(43,46,17592186044415),(44,47,35184372088831),(45,48,70368744177663),(46,49,140737488355327),(47,50,281474976710655),(48,2,562949953421311)] ?_
   iterate 38 (first | (refine st_ (v := ?_) (a' := ?_) HT_ HW_ rfl rfl (by kernel_rfl) (fun _ _ _ h => h) (Or.inl ⟨by rfl, ?_⟩) hHeld ?_ ?_; rotate_left; (·rintro w' ⟨s0, s1, s2, s3, s4, s5, s6⟩; go_simp; (with_reducible rfl)); rotate_left; (·simp only [Act.put, sA, sZ, sS, i64_w, i32_w]; rfl)) | (refine sp_ (v := undef) (a' := ?_) HT_ rfl rfl (by kernel_rfl) (fun _ _ _ h => h) (Or.inr ⟨by rfl, rfl⟩) ?_ ?_; rotate_left; (·simp only [Act.put, sA, sZ, sS, i64_w, i32_w]; rfl)) | (refine sp_ (v := ?_) (a' := ?_) HT_ rfl rfl (by kernel_rfl) (fun _ _ _ h => h) (Or.inl ⟨by rfl, ?_⟩) ?_ ?_; rotate_left; (·intro w'; go_simp; (with_reducible rfl)); rotate_left; (·simp only [Act.put, sA, sZ, sS, i64_w, i32_w]; rfl)))
   refine done_ (done_of HT_.out (by kernel_rfl)) ?_
   try go_wp2
   go_ret
   exact ⟨by first | rfl | (simp [errW_none, errW_some] <;> rfl) | (simp [*, errW_none, errW_some] <;> rfl), by repeat (with_reducible first | exact HB.out | apply Be | apply Bc | apply Bd | refine Bs ?_ GE238.out)⟩
  rw [if_neg c5] at H
  have c5b0 : decide (0 ≤ a0_3) = false := decide_eq_false c5
  clear c5
  obtain rfl := Option.some.inj H
  go_enter Tryd.func52, Tryd.ntmps52
  try go_wp2_with (first | ((with_reducible refine gate_dst (N := 1) rfl ?_); refine box_event ?hg (N := 1) ?hd (cs := #[.int .i64 a0_0, .int .i64 a0_1, .int .i64 a0_2, .int .i64 a0_3, .int .i64 a0_4, .int .i64 a0_5, .int .i64 a0_6]) (t := 24) ?hr ?_; (case hd => rfl); (case hg => rfl); (case hr => first | (go_simp; done) | (go_simp; rfl)); intro gb238 hg w30 hbox hb; have n0_ := aM (below_step (by repeat (with_reducible first | exact HB.out | apply Be | apply Bc | apply Bd)) hb); have n1_ := aM (hbox); have n2_ := aM ((by rw [hg]; exact (below_size (by repeat (with_reducible first | exact HB.out | apply Be | apply Bc | apply Bd))) : w.heap.size ≤ gb238)); have n3_ := n2_; clear HB; have HB := n0_; have BK238 := n1_; have GW238 := n2_; have GE238 := n3_; clear n0_ n1_ n2_ n3_; clear hb hbox hg))
  have n0_ := aM (Bh BK238.out); have n1_ := aM (Bd HB.out); clear BK238; clear HB; have BK238 := n0_; have HB := n1_; clear n0_ n1_
  refine start_ (n := 49) (S := fun w' => w'.cell? ⟨gb238, 0, none⟩ = some (.int .i64 a0_0) ∧ w'.cell? ⟨gb238, 1, none⟩ = some (.int .i64 a0_1) ∧ w'.cell? ⟨gb238, 2, none⟩ = some (.int .i64 a0_2) ∧ w'.cell? ⟨gb238, 3, none⟩ = some (.int .i64 a0_3) ∧ w'.cell? ⟨gb238, 4, none⟩ = some (.int .i64 a0_4) ∧ w'.cell? ⟨gb238, 5, none⟩ = some (.int .i64 a0_5) ∧ w'.cell? ⟨gb238, 6, none⟩ = some (.int .i64 a0_6)) (ds := []) #[X,X,X,X,X,X,X,X,X,X,X,X,X,X,X,X,X,X,X,X,X,X,X,X,X,X,X,X,X,X,X,X,X,X,X,X,X,X,X,X,X,X,X,X,X,X,X,X,X] (by kernel_rfl) rfl rfl (c7_ BK238.out) (fun hHeld => ?_); refine with_tabW spec_l4Fields.tab1 spec_l4Fields.bits1 (fun HT_ HW_ => ?_)
  generalize w30.drew = w31 at BK238 HB hHeld ⊢
  refine ord_ 49 [(0,3,1),(1,4,3),(2,5,7),(3,6,15),(4,7,31),(6,9,95),(8,11,351),(5,8,383),(7,10,511),(9,12,1023)] ?_
  iterate 10 (first | (refine st_ (v := ?_) (a' := ?_) HT_ HW_ rfl rfl (by kernel_rfl) (fun _ _ _ h => h) (Or.inl ⟨by rfl, ?_⟩) hHeld ?_ ?_; rotate_left; (·rintro w' ⟨s0, s1, s2, s3, s4, s5, s6⟩; go_simp; (with_reducible rfl)); rotate_left; (·simp only [Act.put, sA, sZ, sS, i64_w, i32_w]; rfl)) | (refine sp_ (v := ?_) (a' := ?_) HT_ rfl rfl (by kernel_rfl) (fun _ _ _ h => h) (Or.inl ⟨by rfl, ?_⟩) ?_ ?_; rotate_left; (·intro w'; go_simp; (with_reducible rfl)); rotate_left; (·simp only [Act.put, sA, sZ, sS, i64_w, i32_w]; rfl)))
  refine one_ (i := 10) (N := some 13) (mb 49 2047) rfl rfl (one_of HT_.out (by kernel_rfl)) (by decide) (fun K hK => ?_)
  refine goes_ Tryd.func73 (by kernel_rfl) rfl #[.int .i64 a0_0, .int .i64 a0_1] (by rfl) rfl rfl (by (try simp only [mT, mC, mN]) <;> rfl) ?_
  with_reducible refine (spec_DaysOf.calls k a0_0 a0_1 t239 _ A3.out).mono ?_
  rintro e w32 ⟨rfl, hb⟩
  refine ⟨_, rfl, ?_⟩
  have n0_ := aM (blk_below (by (with_reducible repeat (first | refine Bf ?_ _ | refine Bh ?_ | refine Bg ?_ _)); exact BK238.out) hb); have n1_ := aM (below_step (by repeat (with_reducible first | exact HB.out | apply Be | apply Bc | apply Bd | refine Bs ?_ GE238.out)) hb); clear BK238; clear HB; have BK238 := n0_; have HB := n1_; clear n0_ n1_
  (try clear hb)
  (try clear hb2)
  (try clear hk)
  (try clear hi)
  refine hK.out _ _ (c7_ BK238.out) (fun hHeld => ?_)
  clear hK K
  refine norm_ (a' := ?_) ?_ ?_
  rotate_left
  ·show Act.put _ (some 13) _ = _
   simp only [Act.put, sA, sZ, sS, i64_w, i32_w]
   rfl
  refine ord_ 49 [(11,14,4095),(12,15,8191),(13,16,16383),(14,17,32767),(15,18,65535),(16,19,131071),(17,20,262143),(18,21,524287),(19,22,1048575),(20,23,2097151),(21,24,4194303),(22,25,8388607),(23,26,16777215),(24,27,33554431),(25,28,67108863),(26,29,134217727),(27,30,268435455),(28,31,536870911),(29,32,1073741823),(30,33,2147483647),(31,34,4294967295),(32,35,8589934591),(33,36,17179869183),(34,37,34359738367),(35,38,68719476735),(36,39,137438953471),(37,40,274877906943),(38,41,549755813887),(39,42,1099511627775),(40,43,2199023255551),(41,44,4398046511103),(42,45,8796093022207),(43,46,17592186044415),(44,47,35184372088831),(45,48,70368744177663),(46,49,140737488355327),(47,50,281474976710655),(48,2,562949953421311)] ?_
  iterate 38 (first | (refine st_ (v := ?_) (a' := ?_) HT_ HW_ rfl rfl (by kernel_rfl) (fun _ _ _ h => h) (Or.inl ⟨by rfl, ?_⟩) hHeld ?_ ?_; rotate_left; (·rintro w' ⟨s0, s1, s2, s3, s4, s5, s6⟩; go_simp; (with_reducible rfl)); rotate_left; (·simp only [Act.put, sA, sZ, sS, i64_w, i32_w]; rfl)) | (refine sp_ (v := undef) (a' := ?_) HT_ rfl rfl (by kernel_rfl) (fun _ _ _ h => h) (Or.inr ⟨by rfl, rfl⟩) ?_ ?_; rotate_left; (·simp only [Act.put, sA, sZ, sS, i64_w, i32_w]; rfl)) | (refine sp_ (v := ?_) (a' := ?_) HT_ rfl rfl (by kernel_rfl) (fun _ _ _ h => h) (Or.inl ⟨by rfl, ?_⟩) ?_ ?_; rotate_left; (·intro w'; go_simp; (with_reducible rfl)); rotate_left; (·simp only [Act.put, sA, sZ, sS, i64_w, i32_w]; rfl)))
  refine done_ (done_of HT_.out (by kernel_rfl)) ?_
  try go_wp2
  go_ret
  exact ⟨by first | rfl | (simp [errW_none, errW_some] <;> rfl) | (simp [*, errW_none, errW_some] <;> rfl), by repeat (with_reducible first | exact HB.out | apply Be | apply Bc | apply Bd | refine Bs ?_ GE238.out)⟩
 rw [if_neg c4] at H
 have c4b0 : decide (a0_2 ≤ t239) = false := decide_eq_false c4
 clear c4
 obtain rfl := Option.some.inj H
 go_enter Tryd.func52, Tryd.ntmps52
 try go_wp2_with (first | ((with_reducible refine gate_dst (N := 1) rfl ?_); refine box_event ?hg (N := 1) ?hd (cs := #[.int .i64 a0_0, .int .i64 a0_1, .int .i64 a0_2, .int .i64 a0_3, .int .i64 a0_4, .int .i64 a0_5, .int .i64 a0_6]) (t := 24) ?hr ?_; (case hd => rfl); (case hg => rfl); (case hr => first | (go_simp; done) | (go_simp; rfl)); intro gb238 hg w33 hbox hb; have n0_ := aM (below_step (by repeat (with_reducible first | exact HB.out | apply Be | apply Bc | apply Bd)) hb); have n1_ := aM (hbox); have n2_ := aM ((by rw [hg]; exact (below_size (by repeat (with_reducible first | exact HB.out | apply Be | apply Bc | apply Bd))) : w.heap.size ≤ gb238)); have n3_ := n2_; clear HB; have HB := n0_; have BK238 := n1_; have GW238 := n2_; have GE238 := n3_; clear n0_ n1_ n2_ n3_; clear hb hbox hg))
 have n0_ := aM (Bh BK238.out); have n1_ := aM (Bd HB.out); clear BK238; clear HB; have BK238 := n0_; have HB := n1_; clear n0_ n1_
 refine start_ (n := 49) (S := fun w' => w'.cell? ⟨gb238, 0, none⟩ = some (.int .i64 a0_0) ∧ w'.cell? ⟨gb238, 1, none⟩ = some (.int .i64 a0_1) ∧ w'.cell? ⟨gb238, 2, none⟩ = some (.int .i64 a0_2) ∧ w'.cell? ⟨gb238, 3, none⟩ = some (.int .i64 a0_3) ∧ w'.cell? ⟨gb238, 4, none⟩ = some (.int .i64 a0_4) ∧ w'.cell? ⟨gb238, 5, none⟩ = some (.int .i64 a0_5) ∧ w'.cell? ⟨gb238, 6, none⟩ = some (.int .i64 a0_6)) (ds := []) #[X,X,X,X,X,X,X,X,X,X,X,X,X,X,X,X,X,X,X,X,X,X,X,X,X,X,X,X,X,X,X,X,X,X,X,X,X,X,X,X,X,X,X,X,X,X,X,X,X] (by kernel_rfl) rfl rfl (c7_ BK238.out) (fun hHeld => ?_); refine with_tabW spec_l4Fields.tab1 spec_l4Fields.bits1 (fun HT_ HW_ => ?_)
 generalize w33.drew = w34 at BK238 HB hHeld ⊢
 refine ord_ 49 [(0,3,1),(1,4,3),(2,5,7),(3,6,15),(4,7,31),(6,9,95),(8,11,351),(5,8,383),(7,10,511),(9,12,1023)] ?_
 iterate 10 (first | (refine st_ (v := ?_) (a' := ?_) HT_ HW_ rfl rfl (by kernel_rfl) (fun _ _ _ h => h) (Or.inl ⟨by rfl, ?_⟩) hHeld ?_ ?_; rotate_left; (·rintro w' ⟨s0, s1, s2, s3, s4, s5, s6⟩; go_simp; (with_reducible rfl)); rotate_left; (·simp only [Act.put, sA, sZ, sS, i64_w, i32_w]; rfl)) | (refine sp_ (v := ?_) (a' := ?_) HT_ rfl rfl (by kernel_rfl) (fun _ _ _ h => h) (Or.inl ⟨by rfl, ?_⟩) ?_ ?_; rotate_left; (·intro w'; go_simp; (with_reducible rfl)); rotate_left; (·simp only [Act.put, sA, sZ, sS, i64_w, i32_w]; rfl)))
 refine one_ (i := 10) (N := some 13) (mb 49 2047) rfl rfl (one_of HT_.out (by kernel_rfl)) (by decide) (fun K hK => ?_)
 refine goes_ Tryd.func73 (by kernel_rfl) rfl #[.int .i64 a0_0, .int .i64 a0_1] (by rfl) rfl rfl (by (try simp only [mT, mC, mN]) <;> rfl) ?_
 with_reducible refine (spec_DaysOf.calls k a0_0 a0_1 t239 _ A3.out).mono ?_
 rintro e w35 ⟨rfl, hb⟩
 refine ⟨_, rfl, ?_⟩
 have n0_ := aM (blk_below (by (with_reducible repeat (first | refine Bf ?_ _ | refine Bh ?_ | refine Bg ?_ _)); exact BK238.out) hb); have n1_ := aM (below_step (by repeat (with_reducible first | exact HB.out | apply Be | apply Bc | apply Bd | refine Bs ?_ GE238.out)) hb); clear BK238; clear HB; have BK238 := n0_; have HB := n1_; clear n0_ n1_
 (try clear hb)
 (try clear hb2)
 (try clear hk)
 (try clear hi)
 refine hK.out _ _ (c7_ BK238.out) (fun hHeld => ?_)
 clear hK K
 refine norm_ (a' := ?_) ?_ ?_
 rotate_left
 ·show Act.put _ (some 13) _ = _
  simp only [Act.put, sA, sZ, sS, i64_w, i32_w]
  rfl
 refine ord_ 49 [(11,14,4095),(12,15,8191),(13,16,16383),(14,17,32767),(15,18,65535),(16,19,131071),(17,20,262143),(18,21,524287),(19,22,1048575),(20,23,2097151),(21,24,4194303),(22,25,8388607),(23,26,16777215),(24,27,33554431),(25,28,67108863),(26,29,134217727),(27,30,268435455),(28,31,536870911),(29,32,1073741823),(30,33,2147483647),(31,34,4294967295),(32,35,8589934591),(33,36,17179869183),(34,37,34359738367),(35,38,68719476735),(36,39,137438953471),(37,40,274877906943),(38,41,549755813887),(39,42,1099511627775),(40,43,2199023255551),(41,44,4398046511103),(42,45,8796093022207),(43,46,17592186044415),(44,47,35184372088831),(45,48,70368744177663),(46,49,140737488355327),(47,50,281474976710655),(48,2,562949953421311)] ?_
 iterate 38 (first | (refine sp_ (v := undef) (a' := ?_) HT_ rfl rfl (by kernel_rfl) (fun _ _ _ h => h) (Or.inr ⟨by rfl, rfl⟩) ?_ ?_; rotate_left; (·simp only [Act.put, sA, sZ, sS, i64_w, i32_w]; rfl)) | (refine sp_ (v := ?_) (a' := ?_) HT_ rfl rfl (by kernel_rfl) (fun _ _ _ h => h) (Or.inl ⟨by rfl, ?_⟩) ?_ ?_; rotate_left; (·intro w'; go_simp; (with_reducible rfl)); rotate_left; (·simp only [Act.put, sA, sZ, sS, i64_w, i32_w]; rfl)))
 refine done_ (done_of HT_.out (by kernel_rfl)) ?_
 try go_wp2
 go_ret
 exact ⟨by first | rfl | (simp [errW_none, errW_some] <;> rfl) | (simp [*, errW_none, errW_some] <;> rfl), by repeat (with_reducible first | exact HB.out | apply Be | apply Bc | apply Bd | refine Bs ?_ GE238.out)⟩
end Go.Proofs.YtafpbechcjcdbaaDoor.PFnDateText
