-- Written by a program of this session (wip/tool/myprint.py) out of the translation.
import Derived.Test.YtafpbechcjcdbaaDoorPFnExactParseDatex0
import Derived.Test.YtafpbechcjcdbaaDoorPFnExactParseDatex1
namespace Go.Proofs.YtafpbechcjcdbaaDoor.PFnExactParseDate
open Go.RowKit Go.Proofs.YtafpbechcjcdbaaDoorW.PrintWords Go.Proofs.YtafpbechcjcdbaaDoorW.PrintLast Go.Proofs.YtafpbechcjcdbaaDoorW.PrintMore
open Go.Proofs.YtafpbechcjcdbaaDoorW.PrintWords renaming blk_cell → Ba, pw_below_drewN → Bc, below_drew1 → Bd, below_alloc → Be, blk_drewN → Bf, blk_alloc → Bg, blk_drew → Bh
open Bool renaming true → Y, false → X
open List renaming setIfInBounds_toArray → sA, set_cons_zero → sZ, set_cons_succ → sS
attribute [local go_sem] max2_int min2_int max_two min_two max_three min_three max_four min_four   -- for this text's walks alone
set_option linter.unusedVariables false
set_option linter.unusedSimpArgs false

/-! ### impl_DateValid: function 18 -/
def impl_DateValid.f (k : Nat) (a0_0 : Int) (a0_1 : Int) (a0_2 : Int) (a0_3 : Int) (a0_4 : Int) (a0_5 : Int) (a0_6 : Int) : Option (Bool) := (impl_DaysOf.f k a0_0 a0_1).bind fun t107 => ((impl_between.f a0_2 1 t107).bind fun t108 => (if t108 = true then ((impl_between.f a0_3 0 23).bind fun t109 => (if t109 = true then ((impl_between.f a0_4 0 59).bind fun t110 => (if t110 = true then ((impl_between.f a0_5 0 59).bind fun t111 => (if t111 = true then ((impl_isZone.f a0_6).bind fun t112 => (if t112 = true then ((impl_Date_seconds.f k a0_0 a0_1 a0_2 a0_3 a0_4 a0_5 a0_6).bind fun t113 => ((impl_between.f t113 0 4102444799).bind fun t114 => (some t114))) else (some false))) else (some false))) else (some false))) else (some false))) else (some false)))
theorem impl_DateValid.mono : ∀ a0 a1 a2 a3 a4 a5 a6 k, LeO (impl_DateValid.f k a0 a1 a2 a3 a4 a5 a6) (impl_DateValid.f (k + 1) a0 a1 a2 a3 a4 a5 a6) := by
 intro a0 a1 a2 a3 a4 a5 a6 k
 unfold impl_DateValid.f
 repeat' first
   | (with_reducible exact impl_Date_seconds.mono _ _ _ _ _ _ _ _)
   | (with_reducible exact impl_DaysOf.mono _ _ _)
   | (with_reducible exact LeO.refl _)
   | (with_reducible exact LeO.none _)
   | (with_reducible refine LeO.ite ?_ ?_)
   | (with_reducible refine LeO.bind ?_ (fun _ => ?_))
def impl_DateValid.T1 : Bool × List (List Nat × List Nat) := (true, [([], []), ([0], [0]), ([], []), ([2], [2]), ([], []), ([4], [4]), ([3, 5], [3, 5]), ([1, 6, 6], [1, 6]), ([7, 7], [7]), ([8], [8]), ([9, 8], [8, 9]), ([10, 8, 8], [8, 10]), ([8, 11], [8, 11]), ([12, 11], [12]), ([13], [13]), ([14, 13], [13, 14]), ([15, 13, 13], [13, 15]), ([13, 16], [13, 16]), ([17, 16], [17]), ([18], [18]), ([19, 18], [18, 19]), ([20, 18, 18], [18, 20]), ([18, 21], [18, 21]), ([22, 21], [22]), ([23], [23]), ([24, 23], [23, 24]), ([25, 23, 23], [23, 25]), ([23, 26], [23, 26]), ([27, 26], [27]), ([28], [28]), ([29, 28, 28], [28, 29]), ([30, 30, 28], [28, 30]), ([28, 31], [28, 31]), ([32, 31, 0, 1, 2, 3, 4, 5, 6, 7, 8, 9, 10, 11, 12, 13, 14, 15, 16, 17, 18, 19, 20, 21, 22, 23, 24, 25, 26, 27, 28, 29, 30, 31, 32], [32])])
def impl_DateValid.B1 : List Nat := [0, 1, 0, 4, 0, 16, 60, 127, 255, 511, 1023, 2047, 4095, 8191, 16383, 32767, 65535, 131071, 262143, 524287, 1048575, 2097151, 4194303, 8388607, 16777215, 33554431, 67108863, 134217727, 268435455, 536870911, 1073741823, 2147483647, 4294967295, 8589934591]
theorem impl_DateValid.tab1 : rtab .any (opsOf Tryd.f18 1) = impl_DateValid.T1 := by kernel_rfl
theorem impl_DateValid.bits1 : waitsOk impl_DateValid.T1.2 impl_DateValid.B1 = true := by kernel_rfl
set_option maxHeartbeats 8000000 in
set_option maxRecDepth 100000 in
theorem impl_DateValid.calls (k : Nat) (a0_0 : Int) (a0_1 : Int) (a0_2 : Int) (a0_3 : Int) (a0_4 : Int) (a0_5 : Int) (a0_6 : Int) (r : Bool) (w : World) (h : impl_DateValid.f k a0_0 a0_1 a0_2 a0_3 a0_4 a0_5 a0_6 = some r) :
  Calls Tryd.prog 18 #[.agg #[.int .i64 a0_0, .int .i64 a0_1, .int .i64 a0_2, .int .i64 a0_3, .int .i64 a0_4, .int .i64 a0_5, .int .i64 a0_6]] w fun e w' => e = .returned (.bool r) ∧ Below w.heap.size w w' := by
 have hu24 := Tryd.underlying24
 have HB := Aside0.mk (Below.refl w.heap.size w)
 have H : ((impl_DaysOf.f k a0_0 a0_1).bind fun t107 => ((impl_between.f a0_2 1 t107).bind fun t108 => (if t108 = true then ((impl_between.f a0_3 0 23).bind fun t109 => (if t109 = true then ((impl_between.f a0_4 0 59).bind fun t110 => (if t110 = true then ((impl_between.f a0_5 0 59).bind fun t111 => (if t111 = true then ((impl_isZone.f a0_6).bind fun t112 => (if t112 = true then ((impl_Date_seconds.f k a0_0 a0_1 a0_2 a0_3 a0_4 a0_5 a0_6).bind fun t113 => ((impl_between.f t113 0 4102444799).bind fun t114 => (some t114))) else (some false))) else (some false))) else (some false))) else (some false))) else (some false)))) = some r := h
 clear h
 replace H := Option.bind_eq_some_iff.mp H
 obtain ⟨t107, A20, H⟩ := H
 replace H : ((impl_between.f a0_2 1 t107).bind fun t108 => (if t108 = true then ((impl_between.f a0_3 0 23).bind fun t109 => (if t109 = true then ((impl_between.f a0_4 0 59).bind fun t110 => (if t110 = true then ((impl_between.f a0_5 0 59).bind fun t111 => (if t111 = true then ((impl_isZone.f a0_6).bind fun t112 => (if t112 = true then ((impl_Date_seconds.f k a0_0 a0_1 a0_2 a0_3 a0_4 a0_5 a0_6).bind fun t113 => ((impl_between.f t113 0 4102444799).bind fun t114 => (some t114))) else (some false))) else (some false))) else (some false))) else (some false))) else (some false))) = some r := H
 have A2 := Aside0.mk A20
 clear A20
 replace H := Option.bind_eq_some_iff.mp H
 obtain ⟨t108, A30, H⟩ := H
 replace H : (if t108 = true then ((impl_between.f a0_3 0 23).bind fun t109 => (if t109 = true then ((impl_between.f a0_4 0 59).bind fun t110 => (if t110 = true then ((impl_between.f a0_5 0 59).bind fun t111 => (if t111 = true then ((impl_isZone.f a0_6).bind fun t112 => (if t112 = true then ((impl_Date_seconds.f k a0_0 a0_1 a0_2 a0_3 a0_4 a0_5 a0_6).bind fun t113 => ((impl_between.f t113 0 4102444799).bind fun t114 => (some t114))) else (some false))) else (some false))) else (some false))) else (some false))) else (some false)) = some r := H
 have A3 := Aside0.mk A30
 clear A30
 by_cases c4 : t108 = true
 ·subst c4
  have H1 : ((impl_between.f a0_3 0 23).bind fun t109 => (if t109 = true then ((impl_between.f a0_4 0 59).bind fun t110 => (if t110 = true then ((impl_between.f a0_5 0 59).bind fun t111 => (if t111 = true then ((impl_isZone.f a0_6).bind fun t112 => (if t112 = true then ((impl_Date_seconds.f k a0_0 a0_1 a0_2 a0_3 a0_4 a0_5 a0_6).bind fun t113 => ((impl_between.f t113 0 4102444799).bind fun t114 => (some t114))) else (some false))) else (some false))) else (some false))) else (some false))) = some r := by rw [if_pos rfl] at H; exact H
  clear H
  have H := H1
  clear H1
  replace H := Option.bind_eq_some_iff.mp H
  obtain ⟨t109, A50, H⟩ := H
  replace H : (if t109 = true then ((impl_between.f a0_4 0 59).bind fun t110 => (if t110 = true then ((impl_between.f a0_5 0 59).bind fun t111 => (if t111 = true then ((impl_isZone.f a0_6).bind fun t112 => (if t112 = true then ((impl_Date_seconds.f k a0_0 a0_1 a0_2 a0_3 a0_4 a0_5 a0_6).bind fun t113 => ((impl_between.f t113 0 4102444799).bind fun t114 => (some t114))) else (some false))) else (some false))) else (some false))) else (some false)) = some r := H
  have A5 := Aside0.mk A50
  clear A50
  by_cases c6 : t109 = true
  ·subst c6
   have H1 : ((impl_between.f a0_4 0 59).bind fun t110 => (if t110 = true then ((impl_between.f a0_5 0 59).bind fun t111 => (if t111 = true then ((impl_isZone.f a0_6).bind fun t112 => (if t112 = true then ((impl_Date_seconds.f k a0_0 a0_1 a0_2 a0_3 a0_4 a0_5 a0_6).bind fun t113 => ((impl_between.f t113 0 4102444799).bind fun t114 => (some t114))) else (some false))) else (some false))) else (some false))) = some r := by rw [if_pos rfl] at H; exact H
   clear H; have H := H1; clear H1; replace H := Option.bind_eq_some_iff.mp H
   obtain ⟨t110, A70, H⟩ := H
   replace H : (if t110 = true then ((impl_between.f a0_5 0 59).bind fun t111 => (if t111 = true then ((impl_isZone.f a0_6).bind fun t112 => (if t112 = true then ((impl_Date_seconds.f k a0_0 a0_1 a0_2 a0_3 a0_4 a0_5 a0_6).bind fun t113 => ((impl_between.f t113 0 4102444799).bind fun t114 => (some t114))) else (some false))) else (some false))) else (some false)) = some r := H
   have A7 := Aside0.mk A70; clear A70
   by_cases c8 : t110 = true
   ·subst c8
    have H1 : ((impl_between.f a0_5 0 59).bind fun t111 => (if t111 = true then ((impl_isZone.f a0_6).bind fun t112 => (if t112 = true then ((impl_Date_seconds.f k a0_0 a0_1 a0_2 a0_3 a0_4 a0_5 a0_6).bind fun t113 => ((impl_between.f t113 0 4102444799).bind fun t114 => (some t114))) else (some false))) else (some false))) = some r := by rw [if_pos rfl] at H; exact H
    clear H; have H := H1; clear H1; replace H := Option.bind_eq_some_iff.mp H
    obtain ⟨t111, A90, H⟩ := H
    replace H : (if t111 = true then ((impl_isZone.f a0_6).bind fun t112 => (if t112 = true then ((impl_Date_seconds.f k a0_0 a0_1 a0_2 a0_3 a0_4 a0_5 a0_6).bind fun t113 => ((impl_between.f t113 0 4102444799).bind fun t114 => (some t114))) else (some false))) else (some false)) = some r := H
    have A9 := Aside0.mk A90; clear A90
    by_cases c10 : t111 = true
    ·subst c10
     have H1 : ((impl_isZone.f a0_6).bind fun t112 => (if t112 = true then ((impl_Date_seconds.f k a0_0 a0_1 a0_2 a0_3 a0_4 a0_5 a0_6).bind fun t113 => ((impl_between.f t113 0 4102444799).bind fun t114 => (some t114))) else (some false))) = some r := by rw [if_pos rfl] at H; exact H
     clear H; have H := H1; clear H1; replace H := Option.bind_eq_some_iff.mp H
     obtain ⟨t112, A110, H⟩ := H
     replace H : (if t112 = true then ((impl_Date_seconds.f k a0_0 a0_1 a0_2 a0_3 a0_4 a0_5 a0_6).bind fun t113 => ((impl_between.f t113 0 4102444799).bind fun t114 => (some t114))) else (some false)) = some r := H
     have A11 := Aside0.mk A110; clear A110
     by_cases c12 : t112 = true
     ·subst c12
      have H1 : ((impl_Date_seconds.f k a0_0 a0_1 a0_2 a0_3 a0_4 a0_5 a0_6).bind fun t113 => ((impl_between.f t113 0 4102444799).bind fun t114 => (some t114))) = some r := by rw [if_pos rfl] at H; exact H
      clear H; have H := H1; clear H1; replace H := Option.bind_eq_some_iff.mp H
      obtain ⟨t113, A130, H⟩ := H
      replace H : ((impl_between.f t113 0 4102444799).bind fun t114 => (some t114)) = some r := H
      have A13 := Aside0.mk A130; clear A130; replace H := Option.bind_eq_some_iff.mp H
      obtain ⟨t114, A140, H⟩ := H
      replace H : (some t114) = some r := H
      have A14 := Aside0.mk A140; clear A140
      obtain rfl := Option.some.inj H
      go_enter Tryd.func18, Tryd.ntmps18
      try go_wp2_with (first | ((with_reducible refine gate_dst (N := 1) rfl ?_); refine box_event ?hg (N := 1) ?hd (cs := #[.int .i64 a0_0, .int .i64 a0_1, .int .i64 a0_2, .int .i64 a0_3, .int .i64 a0_4, .int .i64 a0_5, .int .i64 a0_6]) (t := 24) ?hr ?_; (case hd => rfl); (case hg => rfl); (case hr => first | (go_simp; done) | (go_simp; rfl)); intro gb106 hg w15 hbox hb; have n0_ := Aside0.mk (below_step (by repeat (first | (with_reducible first | exact HB.out | apply Be | apply Bc | apply Bd) | exact HB.out)) hb); have n1_ := Aside0.mk (hbox); have n2_ := Aside0.mk ((by rw [hg]; exact (below_size (by repeat (first | (with_reducible first | exact HB.out | apply Be | apply Bc | apply Bd) | exact HB.out))) : w.heap.size ≤ gb106)); have n3_ := Aside0.mk ((by rw [hg]; exact (below_size (by repeat (first | (with_reducible first | exact HB.out | apply Be | apply Bc | apply Bd) | exact HB.out))) : w.heap.size ≤ gb106)); clear HB; have HB := n0_; have BK106 := n1_; have GW106 := n2_; have GE106 := n3_; clear n0_ n1_ n2_ n3_; clear hb hbox hg))
      have n0_ := Aside0.mk (Bh BK106.out); have n1_ := Aside0.mk (Bd HB.out); clear BK106; clear HB; have BK106 := n0_; have HB := n1_; clear n0_ n1_
      refine start_ (n := 34) (S := fun w' => w'.cell? ⟨gb106, 0, none⟩ = some (.int .i64 a0_0) ∧ w'.cell? ⟨gb106, 1, none⟩ = some (.int .i64 a0_1) ∧ w'.cell? ⟨gb106, 2, none⟩ = some (.int .i64 a0_2) ∧ w'.cell? ⟨gb106, 3, none⟩ = some (.int .i64 a0_3) ∧ w'.cell? ⟨gb106, 4, none⟩ = some (.int .i64 a0_4) ∧ w'.cell? ⟨gb106, 5, none⟩ = some (.int .i64 a0_5) ∧ w'.cell? ⟨gb106, 6, none⟩ = some (.int .i64 a0_6)) (ds := []) #[X,X,X,X,X,X,X,X,X,X,X,X,X,X,X,X,X,X,X,X,X,X,X,X,X,X,X,X,X,X,X,X,X,X] (by kernel_rfl) rfl rfl ⟨(Ba BK106.out 0).trans rfl, (Ba BK106.out 1).trans rfl, (Ba BK106.out 2).trans rfl, (Ba BK106.out 3).trans rfl, (Ba BK106.out 4).trans rfl, (Ba BK106.out 5).trans rfl, (Ba BK106.out 6).trans rfl⟩ (fun hHeld => ?_); refine with_tabW impl_DateValid.tab1 impl_DateValid.bits1 (fun HT_ HW_ => ?_)
      generalize w15.drew = w16 at BK106 HB hHeld ⊢
      refine pure_ (i := 0) (N := some 3) (v := ?_) (a' := ?_) (mb 34 1) rfl rfl (any_of HT_.out (by kernel_rfl)) (fun _ _ _ h => h) (Or.inl ⟨by rfl, ?_⟩) ?_ ?_
      rotate_left; (·intro w'; go_simp; (with_reducible rfl)); rotate_left; (·simp only [Act.put, sA, sZ, sS, i64_w, i32_w]; rfl)
      refine pure_ (i := 2) (N := some 5) (v := ?_) (a' := ?_) (mb 34 5) rfl rfl (any_of HT_.out (by kernel_rfl)) (fun _ _ _ h => h) (Or.inl ⟨by rfl, ?_⟩) ?_ ?_
      rotate_left; (·intro w'; go_simp; (with_reducible rfl)); rotate_left; (·simp only [Act.put, sA, sZ, sS, i64_w, i32_w]; rfl)
      refine pure_ (i := 4) (N := some 7) (v := ?_) (a' := ?_) (mb 34 21) rfl rfl (any_of HT_.out (by kernel_rfl)) (fun _ _ _ h => h) (Or.inl ⟨by rfl, ?_⟩) ?_ ?_
      rotate_left; (·intro w'; go_simp; (with_reducible rfl)); rotate_left; (·simp only [Act.put, sA, sZ, sS, i64_w, i32_w]; rfl)
      refine take_ (i := 1) (N := some 4) (v := ?_) (a' := ?_) (mb 34 23) rfl rfl (take_ofW HT_.out HW_.out (by kernel_rfl)) (fun _ _ _ h => h) (Or.inl ⟨by rfl, ?_⟩) hHeld ?_ ?_
      rotate_left; (·rintro w' ⟨s0, s1, s2, s3, s4, s5, s6⟩; go_simp; (with_reducible rfl)); rotate_left; (·simp only [Act.put, sA, sZ, sS, i64_w, i32_w]; rfl)
      refine take_ (i := 3) (N := some 6) (v := ?_) (a' := ?_) (mb 34 31) rfl rfl (take_ofW HT_.out HW_.out (by kernel_rfl)) (fun _ _ _ h => h) (Or.inl ⟨by rfl, ?_⟩) hHeld ?_ ?_
      rotate_left; (·rintro w' ⟨s0, s1, s2, s3, s4, s5, s6⟩; go_simp; (with_reducible rfl)); rotate_left; (·simp only [Act.put, sA, sZ, sS, i64_w, i32_w]; rfl)
      refine take_ (i := 5) (N := some 8) (v := ?_) (a' := ?_) (mb 34 63) rfl rfl (take_ofW HT_.out HW_.out (by kernel_rfl)) (fun _ _ _ h => h) (Or.inl ⟨by rfl, ?_⟩) hHeld ?_ ?_
      rotate_left; (·rintro w' ⟨s0, s1, s2, s3, s4, s5, s6⟩; go_simp; (with_reducible rfl)); rotate_left; (·simp only [Act.put, sA, sZ, sS, i64_w, i32_w]; rfl)
      refine one_ (i := 6) (N := some 9) (mb 34 127) rfl rfl (one_of HT_.out (by kernel_rfl)) (by decide) (fun K hK => ?_)
      refine goes_ Tryd.func49 (by kernel_rfl) rfl #[.int .i64 a0_0, .int .i64 a0_1] (by rfl) rfl rfl (by (try simp only [List.map_toArray, List.map_cons, List.map_nil]); first | done | rfl | (simp only [List.length_drop, List.length_take]; rfl)) ?_
      with_reducible refine (impl_DaysOf.calls k a0_0 a0_1 t107 _ A2.out).mono ?_
      rintro e w' ⟨rfl, ⟨nd, rfl⟩⟩
      refine ⟨_, rfl, ?_⟩
      refine hK.out _ _ ⟨(Ba BK106.out 0).trans rfl, (Ba BK106.out 1).trans rfl, (Ba BK106.out 2).trans rfl, (Ba BK106.out 3).trans rfl, (Ba BK106.out 4).trans rfl, (Ba BK106.out 5).trans rfl, (Ba BK106.out 6).trans rfl⟩ (fun hHeld => ?_)
      clear hK K
      refine norm_ (a' := ?_) ?_ ?_
      rotate_left
      ·show Act.put _ (some 9) _ = _
       simp only [Act.put, sA, sZ, sS, i64_w, i32_w]
       rfl
      refine one_ (i := 7) (N := some 10) (mb 34 255) rfl rfl (one_of HT_.out (by kernel_rfl)) (by decide) (fun K hK => ?_)
      refine goes_ Tryd.func48 (by kernel_rfl) rfl #[.int .i64 a0_2, .int .i64 1, .int .i64 t107] (by rfl) rfl rfl (by (try simp only [List.map_toArray, List.map_cons, List.map_nil]); first | done | rfl | (simp only [List.length_drop, List.length_take]; rfl)) ?_
      with_reducible refine (impl_between.calls a0_2 1 t107 true _ A3.out).mono ?_
      rintro e w' ⟨rfl, ⟨nd, rfl⟩⟩
      refine ⟨_, rfl, ?_⟩
      refine hK.out _ _ ⟨(Ba BK106.out 0).trans rfl, (Ba BK106.out 1).trans rfl, (Ba BK106.out 2).trans rfl, (Ba BK106.out 3).trans rfl, (Ba BK106.out 4).trans rfl, (Ba BK106.out 5).trans rfl, (Ba BK106.out 6).trans rfl⟩ (fun hHeld => ?_)
      clear hK K
      refine norm_ (a' := ?_) ?_ ?_
      rotate_left
      ·show Act.put _ (some 10) _ = _
       simp only [Act.put, sA, sZ, sS, i64_w, i32_w]
       rfl
      refine pure_ (i := 8) (N := some 11) (v := ?_) (a' := ?_) (mb 34 511) rfl rfl (any_of HT_.out (by kernel_rfl)) (fun _ _ _ h => h) (Or.inl ⟨by rfl, ?_⟩) ?_ ?_
      rotate_left; (·intro w'; go_simp; (with_reducible rfl)); rotate_left; (·simp only [Act.put, sA, sZ, sS, i64_w, i32_w]; rfl)
      refine pure_ (i := 9) (N := some 12) (v := ?_) (a' := ?_) (mb 34 1023) rfl rfl (any_of HT_.out (by kernel_rfl)) (fun _ _ _ h => h) (Or.inl ⟨by rfl, ?_⟩) ?_ ?_
      rotate_left; (·intro w'; go_simp; (with_reducible rfl)); rotate_left; (·simp only [Act.put, sA, sZ, sS, i64_w, i32_w]; rfl)
      refine take_ (i := 10) (N := some 13) (v := ?_) (a' := ?_) (mb 34 2047) rfl rfl (take_ofW HT_.out HW_.out (by kernel_rfl)) (fun _ _ _ h => h) (Or.inl ⟨by rfl, ?_⟩) hHeld ?_ ?_
      rotate_left; (·rintro w' ⟨s0, s1, s2, s3, s4, s5, s6⟩; go_simp; (with_reducible rfl)); rotate_left; (·simp only [Act.put, sA, sZ, sS, i64_w, i32_w]; rfl)
      refine one_ (i := 11) (N := some 14) (mb 34 4095) rfl rfl (one_of HT_.out (by kernel_rfl)) (by decide) (fun K hK => ?_)
      refine goes_ Tryd.func48 (by kernel_rfl) rfl #[.int .i64 a0_3, .int .i64 0, .int .i64 23] (by rfl) rfl rfl (by (try simp only [List.map_toArray, List.map_cons, List.map_nil]); first | done | rfl | (simp only [List.length_drop, List.length_take]; rfl)) ?_
      with_reducible refine (impl_between.calls a0_3 0 23 true _ A5.out).mono ?_
      rintro e w' ⟨rfl, ⟨nd, rfl⟩⟩
      refine ⟨_, rfl, ?_⟩
      refine hK.out _ _ ⟨(Ba BK106.out 0).trans rfl, (Ba BK106.out 1).trans rfl, (Ba BK106.out 2).trans rfl, (Ba BK106.out 3).trans rfl, (Ba BK106.out 4).trans rfl, (Ba BK106.out 5).trans rfl, (Ba BK106.out 6).trans rfl⟩ (fun hHeld => ?_)
      clear hK K
      refine norm_ (a' := ?_) ?_ ?_
      rotate_left
      ·show Act.put _ (some 14) _ = _
       simp only [Act.put, sA, sZ, sS, i64_w, i32_w]
       rfl
      refine pure_ (i := 12) (N := some 15) (v := ?_) (a' := ?_) (mb 34 8191) rfl rfl (any_of HT_.out (by kernel_rfl)) (fun _ _ _ h => h) (Or.inl ⟨by rfl, ?_⟩) ?_ ?_
      rotate_left; (·intro w'; go_simp; (with_reducible rfl)); rotate_left; (·simp only [Act.put, sA, sZ, sS, i64_w, i32_w]; rfl)
      refine pure_ (i := 13) (N := some 16) (v := ?_) (a' := ?_) (mb 34 16383) rfl rfl (any_of HT_.out (by kernel_rfl)) (fun _ _ _ h => h) (Or.inl ⟨by rfl, ?_⟩) ?_ ?_
      rotate_left; (·intro w'; go_simp; (with_reducible rfl)); rotate_left; (·simp only [Act.put, sA, sZ, sS, i64_w, i32_w]; rfl)
      refine pure_ (i := 14) (N := some 17) (v := ?_) (a' := ?_) (mb 34 32767) rfl rfl (any_of HT_.out (by kernel_rfl)) (fun _ _ _ h => h) (Or.inl ⟨by rfl, ?_⟩) ?_ ?_
      rotate_left; (·intro w'; go_simp; (with_reducible rfl)); rotate_left; (·simp only [Act.put, sA, sZ, sS, i64_w, i32_w]; rfl)
      refine take_ (i := 15) (N := some 18) (v := ?_) (a' := ?_) (mb 34 65535) rfl rfl (take_ofW HT_.out HW_.out (by kernel_rfl)) (fun _ _ _ h => h) (Or.inl ⟨by rfl, ?_⟩) hHeld ?_ ?_
      rotate_left; (·rintro w' ⟨s0, s1, s2, s3, s4, s5, s6⟩; go_simp; (with_reducible rfl)); rotate_left; (·simp only [Act.put, sA, sZ, sS, i64_w, i32_w]; rfl)
      refine one_ (i := 16) (N := some 19) (mb 34 131071) rfl rfl (one_of HT_.out (by kernel_rfl)) (by decide) (fun K hK => ?_)
      refine goes_ Tryd.func48 (by kernel_rfl) rfl #[.int .i64 a0_4, .int .i64 0, .int .i64 59] (by rfl) rfl rfl (by (try simp only [List.map_toArray, List.map_cons, List.map_nil]); first | done | rfl | (simp only [List.length_drop, List.length_take]; rfl)) ?_
      with_reducible refine (impl_between.calls a0_4 0 59 true _ A7.out).mono ?_
      rintro e w' ⟨rfl, ⟨nd, rfl⟩⟩
      refine ⟨_, rfl, ?_⟩
      refine hK.out _ _ ⟨(Ba BK106.out 0).trans rfl, (Ba BK106.out 1).trans rfl, (Ba BK106.out 2).trans rfl, (Ba BK106.out 3).trans rfl, (Ba BK106.out 4).trans rfl, (Ba BK106.out 5).trans rfl, (Ba BK106.out 6).trans rfl⟩ (fun hHeld => ?_)
      clear hK K
      refine norm_ (a' := ?_) ?_ ?_
      rotate_left
      ·show Act.put _ (some 19) _ = _
       simp only [Act.put, sA, sZ, sS, i64_w, i32_w]
       rfl
      refine pure_ (i := 17) (N := some 20) (v := ?_) (a' := ?_) (mb 34 262143) rfl rfl (any_of HT_.out (by kernel_rfl)) (fun _ _ _ h => h) (Or.inl ⟨by rfl, ?_⟩) ?_ ?_
      rotate_left; (·intro w'; go_simp; (with_reducible rfl)); rotate_left; (·simp only [Act.put, sA, sZ, sS, i64_w, i32_w]; rfl)
      refine pure_ (i := 18) (N := some 21) (v := ?_) (a' := ?_) (mb 34 524287) rfl rfl (any_of HT_.out (by kernel_rfl)) (fun _ _ _ h => h) (Or.inl ⟨by rfl, ?_⟩) ?_ ?_
      rotate_left; (·intro w'; go_simp; (with_reducible rfl)); rotate_left; (·simp only [Act.put, sA, sZ, sS, i64_w, i32_w]; rfl)
      refine pure_ (i := 19) (N := some 22) (v := ?_) (a' := ?_) (mb 34 1048575) rfl rfl (any_of HT_.out (by kernel_rfl)) (fun _ _ _ h => h) (Or.inl ⟨by rfl, ?_⟩) ?_ ?_
      rotate_left; (·intro w'; go_simp; (with_reducible rfl)); rotate_left; (·simp only [Act.put, sA, sZ, sS, i64_w, i32_w]; rfl)
      refine take_ (i := 20) (N := some 23) (v := ?_) (a' := ?_) (mb 34 2097151) rfl rfl (take_ofW HT_.out HW_.out (by kernel_rfl)) (fun _ _ _ h => h) (Or.inl ⟨by rfl, ?_⟩) hHeld ?_ ?_
      rotate_left; (·rintro w' ⟨s0, s1, s2, s3, s4, s5, s6⟩; go_simp; (with_reducible rfl)); rotate_left; (·simp only [Act.put, sA, sZ, sS, i64_w, i32_w]; rfl)
      refine one_ (i := 21) (N := some 24) (mb 34 4194303) rfl rfl (one_of HT_.out (by kernel_rfl)) (by decide) (fun K hK => ?_)
      refine goes_ Tryd.func48 (by kernel_rfl) rfl #[.int .i64 a0_5, .int .i64 0, .int .i64 59] (by rfl) rfl rfl (by (try simp only [List.map_toArray, List.map_cons, List.map_nil]); first | done | rfl | (simp only [List.length_drop, List.length_take]; rfl)) ?_
      with_reducible refine (impl_between.calls a0_5 0 59 true _ A9.out).mono ?_
      rintro e w' ⟨rfl, ⟨nd, rfl⟩⟩
      refine ⟨_, rfl, ?_⟩
      refine hK.out _ _ ⟨(Ba BK106.out 0).trans rfl, (Ba BK106.out 1).trans rfl, (Ba BK106.out 2).trans rfl, (Ba BK106.out 3).trans rfl, (Ba BK106.out 4).trans rfl, (Ba BK106.out 5).trans rfl, (Ba BK106.out 6).trans rfl⟩ (fun hHeld => ?_)
      clear hK K
      refine norm_ (a' := ?_) ?_ ?_
      rotate_left
      ·show Act.put _ (some 24) _ = _
       simp only [Act.put, sA, sZ, sS, i64_w, i32_w]
       rfl
      refine pure_ (i := 22) (N := some 25) (v := ?_) (a' := ?_) (mb 34 8388607) rfl rfl (any_of HT_.out (by kernel_rfl)) (fun _ _ _ h => h) (Or.inl ⟨by rfl, ?_⟩) ?_ ?_
      rotate_left; (·intro w'; go_simp; (with_reducible rfl)); rotate_left; (·simp only [Act.put, sA, sZ, sS, i64_w, i32_w]; rfl)
      refine pure_ (i := 23) (N := some 26) (v := ?_) (a' := ?_) (mb 34 16777215) rfl rfl (any_of HT_.out (by kernel_rfl)) (fun _ _ _ h => h) (Or.inl ⟨by rfl, ?_⟩) ?_ ?_
      rotate_left; (·intro w'; go_simp; (with_reducible rfl)); rotate_left; (·simp only [Act.put, sA, sZ, sS, i64_w, i32_w]; rfl)
      refine pure_ (i := 24) (N := some 27) (v := ?_) (a' := ?_) (mb 34 33554431) rfl rfl (any_of HT_.out (by kernel_rfl)) (fun _ _ _ h => h) (Or.inl ⟨by rfl, ?_⟩) ?_ ?_
      rotate_left; (·intro w'; go_simp; (with_reducible rfl)); rotate_left; (·simp only [Act.put, sA, sZ, sS, i64_w, i32_w]; rfl)
      refine take_ (i := 25) (N := some 28) (v := ?_) (a' := ?_) (mb 34 67108863) rfl rfl (take_ofW HT_.out HW_.out (by kernel_rfl)) (fun _ _ _ h => h) (Or.inl ⟨by rfl, ?_⟩) hHeld ?_ ?_
      rotate_left; (·rintro w' ⟨s0, s1, s2, s3, s4, s5, s6⟩; go_simp; (with_reducible rfl)); rotate_left; (·simp only [Act.put, sA, sZ, sS, i64_w, i32_w]; rfl)
      refine one_ (i := 26) (N := some 29) (mb 34 134217727) rfl rfl (one_of HT_.out (by kernel_rfl)) (by decide) (fun K hK => ?_)
      refine goes_ Tryd.func50 (by kernel_rfl) rfl #[.int .i64 a0_6] (by rfl) rfl rfl (by (try simp only [List.map_toArray, List.map_cons, List.map_nil]); first | done | rfl | (simp only [List.length_drop, List.length_take]; rfl)) ?_
      with_reducible refine (impl_isZone.calls a0_6 true _ A11.out).mono ?_
      rintro e w' ⟨rfl, ⟨nd, rfl⟩⟩
      refine ⟨_, rfl, ?_⟩
      refine hK.out _ _ ⟨(Ba BK106.out 0).trans rfl, (Ba BK106.out 1).trans rfl, (Ba BK106.out 2).trans rfl, (Ba BK106.out 3).trans rfl, (Ba BK106.out 4).trans rfl, (Ba BK106.out 5).trans rfl, (Ba BK106.out 6).trans rfl⟩ (fun hHeld => ?_)
      clear hK K
      refine norm_ (a' := ?_) ?_ ?_
      rotate_left
      ·show Act.put _ (some 29) _ = _
       simp only [Act.put, sA, sZ, sS, i64_w, i32_w]
       rfl
      refine pure_ (i := 27) (N := some 30) (v := ?_) (a' := ?_) (mb 34 268435455) rfl rfl (any_of HT_.out (by kernel_rfl)) (fun _ _ _ h => h) (Or.inl ⟨by rfl, ?_⟩) ?_ ?_
      rotate_left; (·intro w'; go_simp; (with_reducible rfl)); rotate_left; (·simp only [Act.put, sA, sZ, sS, i64_w, i32_w]; rfl)
      refine pure_ (i := 28) (N := some 31) (v := ?_) (a' := ?_) (mb 34 536870911) rfl rfl (any_of HT_.out (by kernel_rfl)) (fun _ _ _ h => h) (Or.inl ⟨by rfl, ?_⟩) ?_ ?_
      rotate_left; (·intro w'; go_simp; (with_reducible rfl)); rotate_left; (·simp only [Act.put, sA, sZ, sS, i64_w, i32_w]; rfl)
      refine take_ (i := 29) (N := some 32) (v := ?_) (a' := ?_) (mb 34 1073741823) rfl rfl (take_ofW HT_.out HW_.out (by kernel_rfl)) (fun _ _ _ h => h) (Or.inl ⟨by rfl, ?_⟩) hHeld ?_ ?_
      rotate_left; (·rintro w' ⟨s0, s1, s2, s3, s4, s5, s6⟩; go_simp; (with_reducible rfl)); rotate_left; (·simp only [Act.put, sA, sZ, sS, i64_w, i32_w]; rfl)
      refine one_ (i := 30) (N := some 33) (mb 34 2147483647) rfl rfl (one_of HT_.out (by kernel_rfl)) (by decide) (fun K hK => ?_)
      refine goes_ Tryd.func51 (by kernel_rfl) rfl #[.agg #[.int .i64 a0_0, .int .i64 a0_1, .int .i64 a0_2, .int .i64 a0_3, .int .i64 a0_4, .int .i64 a0_5, .int .i64 a0_6]] (by rfl) rfl rfl (by (try simp only [List.map_toArray, List.map_cons, List.map_nil]); first | done | rfl | (simp only [List.length_drop, List.length_take]; rfl)) ?_
      with_reducible refine (impl_Date_seconds.calls k a0_0 a0_1 a0_2 a0_3 a0_4 a0_5 a0_6 t113 _ A13.out).mono ?_
      rintro e w17 ⟨rfl, hb⟩
      refine ⟨_, rfl, ?_⟩
      have n0_ := Aside0.mk (blk_below (g := gb106) (o := .cells #[.int .i64 a0_0, .int .i64 a0_1, .int .i64 a0_2, .int .i64 a0_3, .int .i64 a0_4, .int .i64 a0_5, .int .i64 a0_6] 24 (0, 0)) (by (with_reducible repeat (first | refine Bf ?_ _ | refine Bh ?_ | refine Bg ?_ _)); exact BK106.out) hb); have n1_ := Aside0.mk (below_step (by repeat (first | (with_reducible first | exact HB.out | apply Be | apply Bc | apply Bd | refine below_set ?_ GE106.out) | exact HB.out)) hb); clear BK106; clear HB; have BK106 := n0_; have HB := n1_; clear n0_ n1_
      (try clear hb)
      (try clear hb2)
      (try clear hk)
      (try clear hi)
      refine hK.out _ _ ⟨(Ba BK106.out 0).trans rfl, (Ba BK106.out 1).trans rfl, (Ba BK106.out 2).trans rfl, (Ba BK106.out 3).trans rfl, (Ba BK106.out 4).trans rfl, (Ba BK106.out 5).trans rfl, (Ba BK106.out 6).trans rfl⟩ (fun hHeld => ?_)
      clear hK K
      refine norm_ (a' := ?_) ?_ ?_
      rotate_left
      ·show Act.put _ (some 33) _ = _
       simp only [Act.put, sA, sZ, sS, i64_w, i32_w]
       rfl
      refine one_ (i := 31) (N := some 34) (mb 34 4294967295) rfl rfl (one_of HT_.out (by kernel_rfl)) (by decide) (fun K hK => ?_)
      refine goes_ Tryd.func48 (by kernel_rfl) rfl #[.int .i64 t113, .int .i64 0, .int .i64 4102444799] (by rfl) rfl rfl (by (try simp only [List.map_toArray, List.map_cons, List.map_nil]); first | done | rfl | (simp only [List.length_drop, List.length_take]; rfl)) ?_
      with_reducible refine (impl_between.calls t113 0 4102444799 t114 _ A14.out).mono ?_
      rintro e w' ⟨rfl, ⟨nd, rfl⟩⟩
      refine ⟨_, rfl, ?_⟩
      refine hK.out _ _ ⟨(Ba BK106.out 0).trans rfl, (Ba BK106.out 1).trans rfl, (Ba BK106.out 2).trans rfl, (Ba BK106.out 3).trans rfl, (Ba BK106.out 4).trans rfl, (Ba BK106.out 5).trans rfl, (Ba BK106.out 6).trans rfl⟩ (fun hHeld => ?_)
      clear hK K
      refine norm_ (a' := ?_) ?_ ?_
      rotate_left
      ·show Act.put _ (some 34) _ = _
       simp only [Act.put, sA, sZ, sS, i64_w, i32_w]
       rfl
      refine pure_ (i := 32) (N := some 35) (v := ?_) (a' := ?_) (mb 34 8589934591) rfl rfl (any_of HT_.out (by kernel_rfl)) (fun _ _ _ h => h) (Or.inl ⟨by rfl, ?_⟩) ?_ ?_
      rotate_left; (·intro w'; go_simp; (with_reducible rfl)); rotate_left; (·simp only [Act.put, sA, sZ, sS, i64_w, i32_w]; rfl)
      refine pure_ (i := 33) (N := some 2) (v := ?_) (a' := ?_) (mb 34 17179869183) rfl rfl (any_of HT_.out (by kernel_rfl)) (fun _ _ _ h => h) (Or.inl ⟨by rfl, ?_⟩) ?_ ?_
      rotate_left; (·intro w'; go_simp; (with_reducible rfl)); rotate_left; (·simp only [Act.put, sA, sZ, sS, i64_w, i32_w]; rfl)
      refine done_ (done_of HT_.out (by kernel_rfl)) ?_
      try go_wp2
      go_ret
      exact ⟨by first | rfl | (simp [errW_none, errW_some] <;> rfl) | (simp [*, errW_none, errW_some] <;> rfl), by repeat (first | (with_reducible first | exact HB.out | apply Be | apply Bc | apply Bd | refine below_set ?_ GE106.out) | exact HB.out)⟩
     replace c12 := Bool.eq_false_iff.mpr c12
     subst c12
     have H1 : (some false) = some r := by rw [if_neg (show ¬ (false = true) by decide)] at H; exact H
     clear H; have H := H1; clear H1
     obtain rfl := Option.some.inj H
     go_enter Tryd.func18, Tryd.ntmps18
     try go_wp2_with (first | ((with_reducible refine gate_dst (N := 1) rfl ?_); refine box_event ?hg (N := 1) ?hd (cs := #[.int .i64 a0_0, .int .i64 a0_1, .int .i64 a0_2, .int .i64 a0_3, .int .i64 a0_4, .int .i64 a0_5, .int .i64 a0_6]) (t := 24) ?hr ?_; (case hd => rfl); (case hg => rfl); (case hr => first | (go_simp; done) | (go_simp; rfl)); intro gb106 hg w18 hbox hb; have n0_ := Aside0.mk (below_step (by repeat (first | (with_reducible first | exact HB.out | apply Be | apply Bc | apply Bd) | exact HB.out)) hb); have n1_ := Aside0.mk (hbox); have n2_ := Aside0.mk ((by rw [hg]; exact (below_size (by repeat (first | (with_reducible first | exact HB.out | apply Be | apply Bc | apply Bd) | exact HB.out))) : w.heap.size ≤ gb106)); have n3_ := Aside0.mk ((by rw [hg]; exact (below_size (by repeat (first | (with_reducible first | exact HB.out | apply Be | apply Bc | apply Bd) | exact HB.out))) : w.heap.size ≤ gb106)); clear HB; have HB := n0_; have BK106 := n1_; have GW106 := n2_; have GE106 := n3_; clear n0_ n1_ n2_ n3_; clear hb hbox hg))
     have n0_ := Aside0.mk (Bh BK106.out); have n1_ := Aside0.mk (Bd HB.out); clear BK106; clear HB; have BK106 := n0_; have HB := n1_; clear n0_ n1_
     refine start_ (n := 34) (S := fun w' => w'.cell? ⟨gb106, 0, none⟩ = some (.int .i64 a0_0) ∧ w'.cell? ⟨gb106, 1, none⟩ = some (.int .i64 a0_1) ∧ w'.cell? ⟨gb106, 2, none⟩ = some (.int .i64 a0_2) ∧ w'.cell? ⟨gb106, 3, none⟩ = some (.int .i64 a0_3) ∧ w'.cell? ⟨gb106, 4, none⟩ = some (.int .i64 a0_4) ∧ w'.cell? ⟨gb106, 5, none⟩ = some (.int .i64 a0_5) ∧ w'.cell? ⟨gb106, 6, none⟩ = some (.int .i64 a0_6)) (ds := []) #[X,X,X,X,X,X,X,X,X,X,X,X,X,X,X,X,X,X,X,X,X,X,X,X,X,X,X,X,X,X,X,X,X,X] (by kernel_rfl) rfl rfl ⟨(Ba BK106.out 0).trans rfl, (Ba BK106.out 1).trans rfl, (Ba BK106.out 2).trans rfl, (Ba BK106.out 3).trans rfl, (Ba BK106.out 4).trans rfl, (Ba BK106.out 5).trans rfl, (Ba BK106.out 6).trans rfl⟩ (fun hHeld => ?_); refine with_tabW impl_DateValid.tab1 impl_DateValid.bits1 (fun HT_ HW_ => ?_)
     generalize w18.drew = w19 at BK106 HB hHeld ⊢
     refine pure_ (i := 0) (N := some 3) (v := ?_) (a' := ?_) (mb 34 1) rfl rfl (any_of HT_.out (by kernel_rfl)) (fun _ _ _ h => h) (Or.inl ⟨by rfl, ?_⟩) ?_ ?_
     rotate_left; (·intro w'; go_simp; (with_reducible rfl)); rotate_left; (·simp only [Act.put, sA, sZ, sS, i64_w, i32_w]; rfl)
     refine pure_ (i := 2) (N := some 5) (v := ?_) (a' := ?_) (mb 34 5) rfl rfl (any_of HT_.out (by kernel_rfl)) (fun _ _ _ h => h) (Or.inl ⟨by rfl, ?_⟩) ?_ ?_
     rotate_left; (·intro w'; go_simp; (with_reducible rfl)); rotate_left; (·simp only [Act.put, sA, sZ, sS, i64_w, i32_w]; rfl)
     refine pure_ (i := 4) (N := some 7) (v := ?_) (a' := ?_) (mb 34 21) rfl rfl (any_of HT_.out (by kernel_rfl)) (fun _ _ _ h => h) (Or.inl ⟨by rfl, ?_⟩) ?_ ?_
     rotate_left; (·intro w'; go_simp; (with_reducible rfl)); rotate_left; (·simp only [Act.put, sA, sZ, sS, i64_w, i32_w]; rfl)
     refine take_ (i := 1) (N := some 4) (v := ?_) (a' := ?_) (mb 34 23) rfl rfl (take_ofW HT_.out HW_.out (by kernel_rfl)) (fun _ _ _ h => h) (Or.inl ⟨by rfl, ?_⟩) hHeld ?_ ?_
     rotate_left; (·rintro w' ⟨s0, s1, s2, s3, s4, s5, s6⟩; go_simp; (with_reducible rfl)); rotate_left; (·simp only [Act.put, sA, sZ, sS, i64_w, i32_w]; rfl)
     refine take_ (i := 3) (N := some 6) (v := ?_) (a' := ?_) (mb 34 31) rfl rfl (take_ofW HT_.out HW_.out (by kernel_rfl)) (fun _ _ _ h => h) (Or.inl ⟨by rfl, ?_⟩) hHeld ?_ ?_
     rotate_left; (·rintro w' ⟨s0, s1, s2, s3, s4, s5, s6⟩; go_simp; (with_reducible rfl)); rotate_left; (·simp only [Act.put, sA, sZ, sS, i64_w, i32_w]; rfl)
     refine take_ (i := 5) (N := some 8) (v := ?_) (a' := ?_) (mb 34 63) rfl rfl (take_ofW HT_.out HW_.out (by kernel_rfl)) (fun _ _ _ h => h) (Or.inl ⟨by rfl, ?_⟩) hHeld ?_ ?_
     rotate_left; (·rintro w' ⟨s0, s1, s2, s3, s4, s5, s6⟩; go_simp; (with_reducible rfl)); rotate_left; (·simp only [Act.put, sA, sZ, sS, i64_w, i32_w]; rfl)
     refine one_ (i := 6) (N := some 9) (mb 34 127) rfl rfl (one_of HT_.out (by kernel_rfl)) (by decide) (fun K hK => ?_)
     refine goes_ Tryd.func49 (by kernel_rfl) rfl #[.int .i64 a0_0, .int .i64 a0_1] (by rfl) rfl rfl (by (try simp only [List.map_toArray, List.map_cons, List.map_nil]); first | done | rfl | (simp only [List.length_drop, List.length_take]; rfl)) ?_
     with_reducible refine (impl_DaysOf.calls k a0_0 a0_1 t107 _ A2.out).mono ?_
     rintro e w' ⟨rfl, ⟨nd, rfl⟩⟩
     refine ⟨_, rfl, ?_⟩
     refine hK.out _ _ ⟨(Ba BK106.out 0).trans rfl, (Ba BK106.out 1).trans rfl, (Ba BK106.out 2).trans rfl, (Ba BK106.out 3).trans rfl, (Ba BK106.out 4).trans rfl, (Ba BK106.out 5).trans rfl, (Ba BK106.out 6).trans rfl⟩ (fun hHeld => ?_)
     clear hK K
     refine norm_ (a' := ?_) ?_ ?_
     rotate_left
     ·show Act.put _ (some 9) _ = _
      simp only [Act.put, sA, sZ, sS, i64_w, i32_w]
      rfl
     refine one_ (i := 7) (N := some 10) (mb 34 255) rfl rfl (one_of HT_.out (by kernel_rfl)) (by decide) (fun K hK => ?_)
     refine goes_ Tryd.func48 (by kernel_rfl) rfl #[.int .i64 a0_2, .int .i64 1, .int .i64 t107] (by rfl) rfl rfl (by (try simp only [List.map_toArray, List.map_cons, List.map_nil]); first | done | rfl | (simp only [List.length_drop, List.length_take]; rfl)) ?_
     with_reducible refine (impl_between.calls a0_2 1 t107 true _ A3.out).mono ?_
     rintro e w' ⟨rfl, ⟨nd, rfl⟩⟩
     refine ⟨_, rfl, ?_⟩
     refine hK.out _ _ ⟨(Ba BK106.out 0).trans rfl, (Ba BK106.out 1).trans rfl, (Ba BK106.out 2).trans rfl, (Ba BK106.out 3).trans rfl, (Ba BK106.out 4).trans rfl, (Ba BK106.out 5).trans rfl, (Ba BK106.out 6).trans rfl⟩ (fun hHeld => ?_)
     clear hK K
     refine norm_ (a' := ?_) ?_ ?_
     rotate_left
     ·show Act.put _ (some 10) _ = _
      simp only [Act.put, sA, sZ, sS, i64_w, i32_w]
      rfl
     refine pure_ (i := 8) (N := some 11) (v := ?_) (a' := ?_) (mb 34 511) rfl rfl (any_of HT_.out (by kernel_rfl)) (fun _ _ _ h => h) (Or.inl ⟨by rfl, ?_⟩) ?_ ?_
     rotate_left; (·intro w'; go_simp; (with_reducible rfl)); rotate_left; (·simp only [Act.put, sA, sZ, sS, i64_w, i32_w]; rfl)
     refine pure_ (i := 9) (N := some 12) (v := ?_) (a' := ?_) (mb 34 1023) rfl rfl (any_of HT_.out (by kernel_rfl)) (fun _ _ _ h => h) (Or.inl ⟨by rfl, ?_⟩) ?_ ?_
     rotate_left; (·intro w'; go_simp; (with_reducible rfl)); rotate_left; (·simp only [Act.put, sA, sZ, sS, i64_w, i32_w]; rfl)
     refine take_ (i := 10) (N := some 13) (v := ?_) (a' := ?_) (mb 34 2047) rfl rfl (take_ofW HT_.out HW_.out (by kernel_rfl)) (fun _ _ _ h => h) (Or.inl ⟨by rfl, ?_⟩) hHeld ?_ ?_
     rotate_left; (·rintro w' ⟨s0, s1, s2, s3, s4, s5, s6⟩; go_simp; (with_reducible rfl)); rotate_left; (·simp only [Act.put, sA, sZ, sS, i64_w, i32_w]; rfl)
     refine one_ (i := 11) (N := some 14) (mb 34 4095) rfl rfl (one_of HT_.out (by kernel_rfl)) (by decide) (fun K hK => ?_)
     refine goes_ Tryd.func48 (by kernel_rfl) rfl #[.int .i64 a0_3, .int .i64 0, .int .i64 23] (by rfl) rfl rfl (by (try simp only [List.map_toArray, List.map_cons, List.map_nil]); first | done | rfl | (simp only [List.length_drop, List.length_take]; rfl)) ?_
     with_reducible refine (impl_between.calls a0_3 0 23 true _ A5.out).mono ?_
     rintro e w' ⟨rfl, ⟨nd, rfl⟩⟩
     refine ⟨_, rfl, ?_⟩
     refine hK.out _ _ ⟨(Ba BK106.out 0).trans rfl, (Ba BK106.out 1).trans rfl, (Ba BK106.out 2).trans rfl, (Ba BK106.out 3).trans rfl, (Ba BK106.out 4).trans rfl, (Ba BK106.out 5).trans rfl, (Ba BK106.out 6).trans rfl⟩ (fun hHeld => ?_)
     clear hK K
     refine norm_ (a' := ?_) ?_ ?_
     rotate_left
     ·show Act.put _ (some 14) _ = _
      simp only [Act.put, sA, sZ, sS, i64_w, i32_w]
      rfl
     refine pure_ (i := 12) (N := some 15) (v := ?_) (a' := ?_) (mb 34 8191) rfl rfl (any_of HT_.out (by kernel_rfl)) (fun _ _ _ h => h) (Or.inl ⟨by rfl, ?_⟩) ?_ ?_
     rotate_left; (·intro w'; go_simp; (with_reducible rfl)); rotate_left; (·simp only [Act.put, sA, sZ, sS, i64_w, i32_w]; rfl)
     refine pure_ (i := 13) (N := some 16) (v := ?_) (a' := ?_) (mb 34 16383) rfl rfl (any_of HT_.out (by kernel_rfl)) (fun _ _ _ h => h) (Or.inl ⟨by rfl, ?_⟩) ?_ ?_
     rotate_left; (·intro w'; go_simp; (with_reducible rfl)); rotate_left; (·simp only [Act.put, sA, sZ, sS, i64_w, i32_w]; rfl)
     refine pure_ (i := 14) (N := some 17) (v := ?_) (a' := ?_) (mb 34 32767) rfl rfl (any_of HT_.out (by kernel_rfl)) (fun _ _ _ h => h) (Or.inl ⟨by rfl, ?_⟩) ?_ ?_
     rotate_left; (·intro w'; go_simp; (with_reducible rfl)); rotate_left; (·simp only [Act.put, sA, sZ, sS, i64_w, i32_w]; rfl)
     refine take_ (i := 15) (N := some 18) (v := ?_) (a' := ?_) (mb 34 65535) rfl rfl (take_ofW HT_.out HW_.out (by kernel_rfl)) (fun _ _ _ h => h) (Or.inl ⟨by rfl, ?_⟩) hHeld ?_ ?_
     rotate_left; (·rintro w' ⟨s0, s1, s2, s3, s4, s5, s6⟩; go_simp; (with_reducible rfl)); rotate_left; (·simp only [Act.put, sA, sZ, sS, i64_w, i32_w]; rfl)
     refine one_ (i := 16) (N := some 19) (mb 34 131071) rfl rfl (one_of HT_.out (by kernel_rfl)) (by decide) (fun K hK => ?_)
     refine goes_ Tryd.func48 (by kernel_rfl) rfl #[.int .i64 a0_4, .int .i64 0, .int .i64 59] (by rfl) rfl rfl (by (try simp only [List.map_toArray, List.map_cons, List.map_nil]); first | done | rfl | (simp only [List.length_drop, List.length_take]; rfl)) ?_
     with_reducible refine (impl_between.calls a0_4 0 59 true _ A7.out).mono ?_
     rintro e w' ⟨rfl, ⟨nd, rfl⟩⟩
     refine ⟨_, rfl, ?_⟩
     refine hK.out _ _ ⟨(Ba BK106.out 0).trans rfl, (Ba BK106.out 1).trans rfl, (Ba BK106.out 2).trans rfl, (Ba BK106.out 3).trans rfl, (Ba BK106.out 4).trans rfl, (Ba BK106.out 5).trans rfl, (Ba BK106.out 6).trans rfl⟩ (fun hHeld => ?_)
     clear hK K
     refine norm_ (a' := ?_) ?_ ?_
     rotate_left
     ·show Act.put _ (some 19) _ = _
      simp only [Act.put, sA, sZ, sS, i64_w, i32_w]
      rfl
     refine pure_ (i := 17) (N := some 20) (v := ?_) (a' := ?_) (mb 34 262143) rfl rfl (any_of HT_.out (by kernel_rfl)) (fun _ _ _ h => h) (Or.inl ⟨by rfl, ?_⟩) ?_ ?_
     rotate_left; (·intro w'; go_simp; (with_reducible rfl)); rotate_left; (·simp only [Act.put, sA, sZ, sS, i64_w, i32_w]; rfl)
     refine pure_ (i := 18) (N := some 21) (v := ?_) (a' := ?_) (mb 34 524287) rfl rfl (any_of HT_.out (by kernel_rfl)) (fun _ _ _ h => h) (Or.inl ⟨by rfl, ?_⟩) ?_ ?_
     rotate_left; (·intro w'; go_simp; (with_reducible rfl)); rotate_left; (·simp only [Act.put, sA, sZ, sS, i64_w, i32_w]; rfl)
     refine pure_ (i := 19) (N := some 22) (v := ?_) (a' := ?_) (mb 34 1048575) rfl rfl (any_of HT_.out (by kernel_rfl)) (fun _ _ _ h => h) (Or.inl ⟨by rfl, ?_⟩) ?_ ?_
     rotate_left; (·intro w'; go_simp; (with_reducible rfl)); rotate_left; (·simp only [Act.put, sA, sZ, sS, i64_w, i32_w]; rfl)
     refine take_ (i := 20) (N := some 23) (v := ?_) (a' := ?_) (mb 34 2097151) rfl rfl (take_ofW HT_.out HW_.out (by kernel_rfl)) (fun _ _ _ h => h) (Or.inl ⟨by rfl, ?_⟩) hHeld ?_ ?_
     rotate_left; (·rintro w' ⟨s0, s1, s2, s3, s4, s5, s6⟩; go_simp; (with_reducible rfl)); rotate_left; (·simp only [Act.put, sA, sZ, sS, i64_w, i32_w]; rfl)
     refine one_ (i := 21) (N := some 24) (mb 34 4194303) rfl rfl (one_of HT_.out (by kernel_rfl)) (by decide) (fun K hK => ?_)
     refine goes_ Tryd.func48 (by kernel_rfl) rfl #[.int .i64 a0_5, .int .i64 0, .int .i64 59] (by rfl) rfl rfl (by (try simp only [List.map_toArray, List.map_cons, List.map_nil]); first | done | rfl | (simp only [List.length_drop, List.length_take]; rfl)) ?_
     with_reducible refine (impl_between.calls a0_5 0 59 true _ A9.out).mono ?_
     rintro e w' ⟨rfl, ⟨nd, rfl⟩⟩
     refine ⟨_, rfl, ?_⟩
     refine hK.out _ _ ⟨(Ba BK106.out 0).trans rfl, (Ba BK106.out 1).trans rfl, (Ba BK106.out 2).trans rfl, (Ba BK106.out 3).trans rfl, (Ba BK106.out 4).trans rfl, (Ba BK106.out 5).trans rfl, (Ba BK106.out 6).trans rfl⟩ (fun hHeld => ?_)
     clear hK K
     refine norm_ (a' := ?_) ?_ ?_
     rotate_left
     ·show Act.put _ (some 24) _ = _
      simp only [Act.put, sA, sZ, sS, i64_w, i32_w]
      rfl
     refine pure_ (i := 22) (N := some 25) (v := ?_) (a' := ?_) (mb 34 8388607) rfl rfl (any_of HT_.out (by kernel_rfl)) (fun _ _ _ h => h) (Or.inl ⟨by rfl, ?_⟩) ?_ ?_
     rotate_left; (·intro w'; go_simp; (with_reducible rfl)); rotate_left; (·simp only [Act.put, sA, sZ, sS, i64_w, i32_w]; rfl)
     refine pure_ (i := 23) (N := some 26) (v := ?_) (a' := ?_) (mb 34 16777215) rfl rfl (any_of HT_.out (by kernel_rfl)) (fun _ _ _ h => h) (Or.inl ⟨by rfl, ?_⟩) ?_ ?_
     rotate_left; (·intro w'; go_simp; (with_reducible rfl)); rotate_left; (·simp only [Act.put, sA, sZ, sS, i64_w, i32_w]; rfl)
     refine pure_ (i := 24) (N := some 27) (v := ?_) (a' := ?_) (mb 34 33554431) rfl rfl (any_of HT_.out (by kernel_rfl)) (fun _ _ _ h => h) (Or.inl ⟨by rfl, ?_⟩) ?_ ?_
     rotate_left; (·intro w'; go_simp; (with_reducible rfl)); rotate_left; (·simp only [Act.put, sA, sZ, sS, i64_w, i32_w]; rfl)
     refine take_ (i := 25) (N := some 28) (v := ?_) (a' := ?_) (mb 34 67108863) rfl rfl (take_ofW HT_.out HW_.out (by kernel_rfl)) (fun _ _ _ h => h) (Or.inl ⟨by rfl, ?_⟩) hHeld ?_ ?_
     rotate_left; (·rintro w' ⟨s0, s1, s2, s3, s4, s5, s6⟩; go_simp; (with_reducible rfl)); rotate_left; (·simp only [Act.put, sA, sZ, sS, i64_w, i32_w]; rfl)
     refine one_ (i := 26) (N := some 29) (mb 34 134217727) rfl rfl (one_of HT_.out (by kernel_rfl)) (by decide) (fun K hK => ?_)
     refine goes_ Tryd.func50 (by kernel_rfl) rfl #[.int .i64 a0_6] (by rfl) rfl rfl (by (try simp only [List.map_toArray, List.map_cons, List.map_nil]); first | done | rfl | (simp only [List.length_drop, List.length_take]; rfl)) ?_
     with_reducible refine (impl_isZone.calls a0_6 false _ A11.out).mono ?_
     rintro e w' ⟨rfl, ⟨nd, rfl⟩⟩
     refine ⟨_, rfl, ?_⟩
     refine hK.out _ _ ⟨(Ba BK106.out 0).trans rfl, (Ba BK106.out 1).trans rfl, (Ba BK106.out 2).trans rfl, (Ba BK106.out 3).trans rfl, (Ba BK106.out 4).trans rfl, (Ba BK106.out 5).trans rfl, (Ba BK106.out 6).trans rfl⟩ (fun hHeld => ?_)
     clear hK K
     refine norm_ (a' := ?_) ?_ ?_
     rotate_left
     ·show Act.put _ (some 29) _ = _
      simp only [Act.put, sA, sZ, sS, i64_w, i32_w]
      rfl
     refine pure_ (i := 27) (N := some 30) (v := ?_) (a' := ?_) (mb 34 268435455) rfl rfl (any_of HT_.out (by kernel_rfl)) (fun _ _ _ h => h) (Or.inl ⟨by rfl, ?_⟩) ?_ ?_
     rotate_left; (·intro w'; go_simp; (with_reducible rfl)); rotate_left; (·simp only [Act.put, sA, sZ, sS, i64_w, i32_w]; rfl)
     refine pure_ (i := 28) (N := some 31) (v := ?_) (a' := ?_) (mb 34 536870911) rfl rfl (any_of HT_.out (by kernel_rfl)) (fun _ _ _ h => h) (Or.inl ⟨by rfl, ?_⟩) ?_ ?_
     rotate_left; (·intro w'; go_simp; (with_reducible rfl)); rotate_left; (·simp only [Act.put, sA, sZ, sS, i64_w, i32_w]; rfl)
     refine pure_ (i := 29) (N := some 32) (v := undef) (a' := ?_) (mb 34 1073741823) rfl rfl (any_of HT_.out (by kernel_rfl)) (fun _ _ _ h => h) (Or.inr ⟨by rfl, rfl⟩) ?_ ?_
     rotate_left
     ·simp only [Act.put, sA, sZ, sS, i64_w, i32_w]
      rfl
     refine pure_ (i := 30) (N := some 33) (v := undef) (a' := ?_) (mb 34 2147483647) rfl rfl (any_of HT_.out (by kernel_rfl)) (fun _ _ _ h => h) (Or.inr ⟨by rfl, rfl⟩) ?_ ?_
     rotate_left
     ·simp only [Act.put, sA, sZ, sS, i64_w, i32_w]
      rfl
     refine pure_ (i := 31) (N := some 34) (v := undef) (a' := ?_) (mb 34 4294967295) rfl rfl (any_of HT_.out (by kernel_rfl)) (fun _ _ _ h => h) (Or.inr ⟨by rfl, rfl⟩) ?_ ?_
     rotate_left
     ·simp only [Act.put, sA, sZ, sS, i64_w, i32_w]
      rfl
     refine pure_ (i := 32) (N := some 35) (v := ?_) (a' := ?_) (mb 34 8589934591) rfl rfl (any_of HT_.out (by kernel_rfl)) (fun _ _ _ h => h) (Or.inl ⟨by rfl, ?_⟩) ?_ ?_
     rotate_left; (·intro w'; go_simp; (with_reducible rfl)); rotate_left; (·simp only [Act.put, sA, sZ, sS, i64_w, i32_w]; rfl)
     refine pure_ (i := 33) (N := some 2) (v := ?_) (a' := ?_) (mb 34 17179869183) rfl rfl (any_of HT_.out (by kernel_rfl)) (fun _ _ _ h => h) (Or.inl ⟨by rfl, ?_⟩) ?_ ?_
     rotate_left; (·intro w'; go_simp; (with_reducible rfl)); rotate_left; (·simp only [Act.put, sA, sZ, sS, i64_w, i32_w]; rfl)
     refine done_ (done_of HT_.out (by kernel_rfl)) ?_
     try go_wp2
     go_ret
     exact ⟨by first | rfl | (simp [errW_none, errW_some] <;> rfl) | (simp [*, errW_none, errW_some] <;> rfl), by repeat (first | (with_reducible first | exact HB.out | apply Be | apply Bc | apply Bd | refine below_set ?_ GE106.out) | exact HB.out)⟩
    replace c10 := Bool.eq_false_iff.mpr c10
    subst c10
    have H1 : (some false) = some r := by rw [if_neg (show ¬ (false = true) by decide)] at H; exact H
    clear H; have H := H1; clear H1
    obtain rfl := Option.some.inj H
    go_enter Tryd.func18, Tryd.ntmps18
    try go_wp2_with (first | ((with_reducible refine gate_dst (N := 1) rfl ?_); refine box_event ?hg (N := 1) ?hd (cs := #[.int .i64 a0_0, .int .i64 a0_1, .int .i64 a0_2, .int .i64 a0_3, .int .i64 a0_4, .int .i64 a0_5, .int .i64 a0_6]) (t := 24) ?hr ?_; (case hd => rfl); (case hg => rfl); (case hr => first | (go_simp; done) | (go_simp; rfl)); intro gb106 hg w20 hbox hb; have n0_ := Aside0.mk (below_step (by repeat (first | (with_reducible first | exact HB.out | apply Be | apply Bc | apply Bd) | exact HB.out)) hb); have n1_ := Aside0.mk (hbox); have n2_ := Aside0.mk ((by rw [hg]; exact (below_size (by repeat (first | (with_reducible first | exact HB.out | apply Be | apply Bc | apply Bd) | exact HB.out))) : w.heap.size ≤ gb106)); have n3_ := Aside0.mk ((by rw [hg]; exact (below_size (by repeat (first | (with_reducible first | exact HB.out | apply Be | apply Bc | apply Bd) | exact HB.out))) : w.heap.size ≤ gb106)); clear HB; have HB := n0_; have BK106 := n1_; have GW106 := n2_; have GE106 := n3_; clear n0_ n1_ n2_ n3_; clear hb hbox hg))
    have n0_ := Aside0.mk (Bh BK106.out); have n1_ := Aside0.mk (Bd HB.out); clear BK106; clear HB; have BK106 := n0_; have HB := n1_; clear n0_ n1_
    refine start_ (n := 34) (S := fun w' => w'.cell? ⟨gb106, 0, none⟩ = some (.int .i64 a0_0) ∧ w'.cell? ⟨gb106, 1, none⟩ = some (.int .i64 a0_1) ∧ w'.cell? ⟨gb106, 2, none⟩ = some (.int .i64 a0_2) ∧ w'.cell? ⟨gb106, 3, none⟩ = some (.int .i64 a0_3) ∧ w'.cell? ⟨gb106, 4, none⟩ = some (.int .i64 a0_4) ∧ w'.cell? ⟨gb106, 5, none⟩ = some (.int .i64 a0_5) ∧ w'.cell? ⟨gb106, 6, none⟩ = some (.int .i64 a0_6)) (ds := []) #[X,X,X,X,X,X,X,X,X,X,X,X,X,X,X,X,X,X,X,X,X,X,X,X,X,X,X,X,X,X,X,X,X,X] (by kernel_rfl) rfl rfl ⟨(Ba BK106.out 0).trans rfl, (Ba BK106.out 1).trans rfl, (Ba BK106.out 2).trans rfl, (Ba BK106.out 3).trans rfl, (Ba BK106.out 4).trans rfl, (Ba BK106.out 5).trans rfl, (Ba BK106.out 6).trans rfl⟩ (fun hHeld => ?_); refine with_tabW impl_DateValid.tab1 impl_DateValid.bits1 (fun HT_ HW_ => ?_)
    generalize w20.drew = w21 at BK106 HB hHeld ⊢
    refine pure_ (i := 0) (N := some 3) (v := ?_) (a' := ?_) (mb 34 1) rfl rfl (any_of HT_.out (by kernel_rfl)) (fun _ _ _ h => h) (Or.inl ⟨by rfl, ?_⟩) ?_ ?_
    rotate_left; (·intro w'; go_simp; (with_reducible rfl)); rotate_left; (·simp only [Act.put, sA, sZ, sS, i64_w, i32_w]; rfl)
    refine pure_ (i := 2) (N := some 5) (v := ?_) (a' := ?_) (mb 34 5) rfl rfl (any_of HT_.out (by kernel_rfl)) (fun _ _ _ h => h) (Or.inl ⟨by rfl, ?_⟩) ?_ ?_
    rotate_left; (·intro w'; go_simp; (with_reducible rfl)); rotate_left; (·simp only [Act.put, sA, sZ, sS, i64_w, i32_w]; rfl)
    refine pure_ (i := 4) (N := some 7) (v := ?_) (a' := ?_) (mb 34 21) rfl rfl (any_of HT_.out (by kernel_rfl)) (fun _ _ _ h => h) (Or.inl ⟨by rfl, ?_⟩) ?_ ?_
    rotate_left; (·intro w'; go_simp; (with_reducible rfl)); rotate_left; (·simp only [Act.put, sA, sZ, sS, i64_w, i32_w]; rfl)
    refine take_ (i := 1) (N := some 4) (v := ?_) (a' := ?_) (mb 34 23) rfl rfl (take_ofW HT_.out HW_.out (by kernel_rfl)) (fun _ _ _ h => h) (Or.inl ⟨by rfl, ?_⟩) hHeld ?_ ?_
    rotate_left; (·rintro w' ⟨s0, s1, s2, s3, s4, s5, s6⟩; go_simp; (with_reducible rfl)); rotate_left; (·simp only [Act.put, sA, sZ, sS, i64_w, i32_w]; rfl)
    refine take_ (i := 3) (N := some 6) (v := ?_) (a' := ?_) (mb 34 31) rfl rfl (take_ofW HT_.out HW_.out (by kernel_rfl)) (fun _ _ _ h => h) (Or.inl ⟨by rfl, ?_⟩) hHeld ?_ ?_
    rotate_left; (·rintro w' ⟨s0, s1, s2, s3, s4, s5, s6⟩; go_simp; (with_reducible rfl)); rotate_left; (·simp only [Act.put, sA, sZ, sS, i64_w, i32_w]; rfl)
    refine take_ (i := 5) (N := some 8) (v := ?_) (a' := ?_) (mb 34 63) rfl rfl (take_ofW HT_.out HW_.out (by kernel_rfl)) (fun _ _ _ h => h) (Or.inl ⟨by rfl, ?_⟩) hHeld ?_ ?_
    rotate_left; (·rintro w' ⟨s0, s1, s2, s3, s4, s5, s6⟩; go_simp; (with_reducible rfl)); rotate_left; (·simp only [Act.put, sA, sZ, sS, i64_w, i32_w]; rfl)
    refine one_ (i := 6) (N := some 9) (mb 34 127) rfl rfl (one_of HT_.out (by kernel_rfl)) (by decide) (fun K hK => ?_)
    refine goes_ Tryd.func49 (by kernel_rfl) rfl #[.int .i64 a0_0, .int .i64 a0_1] (by rfl) rfl rfl (by (try simp only [List.map_toArray, List.map_cons, List.map_nil]); first | done | rfl | (simp only [List.length_drop, List.length_take]; rfl)) ?_
    with_reducible refine (impl_DaysOf.calls k a0_0 a0_1 t107 _ A2.out).mono ?_
    rintro e w' ⟨rfl, ⟨nd, rfl⟩⟩
    refine ⟨_, rfl, ?_⟩
    refine hK.out _ _ ⟨(Ba BK106.out 0).trans rfl, (Ba BK106.out 1).trans rfl, (Ba BK106.out 2).trans rfl, (Ba BK106.out 3).trans rfl, (Ba BK106.out 4).trans rfl, (Ba BK106.out 5).trans rfl, (Ba BK106.out 6).trans rfl⟩ (fun hHeld => ?_)
    clear hK K
    refine norm_ (a' := ?_) ?_ ?_
    rotate_left
    ·show Act.put _ (some 9) _ = _
     simp only [Act.put, sA, sZ, sS, i64_w, i32_w]
     rfl
    refine one_ (i := 7) (N := some 10) (mb 34 255) rfl rfl (one_of HT_.out (by kernel_rfl)) (by decide) (fun K hK => ?_)
    refine goes_ Tryd.func48 (by kernel_rfl) rfl #[.int .i64 a0_2, .int .i64 1, .int .i64 t107] (by rfl) rfl rfl (by (try simp only [List.map_toArray, List.map_cons, List.map_nil]); first | done | rfl | (simp only [List.length_drop, List.length_take]; rfl)) ?_
    with_reducible refine (impl_between.calls a0_2 1 t107 true _ A3.out).mono ?_
    rintro e w' ⟨rfl, ⟨nd, rfl⟩⟩
    refine ⟨_, rfl, ?_⟩
    refine hK.out _ _ ⟨(Ba BK106.out 0).trans rfl, (Ba BK106.out 1).trans rfl, (Ba BK106.out 2).trans rfl, (Ba BK106.out 3).trans rfl, (Ba BK106.out 4).trans rfl, (Ba BK106.out 5).trans rfl, (Ba BK106.out 6).trans rfl⟩ (fun hHeld => ?_)
    clear hK K
    refine norm_ (a' := ?_) ?_ ?_
    rotate_left
    ·show Act.put _ (some 10) _ = _
     simp only [Act.put, sA, sZ, sS, i64_w, i32_w]
     rfl
    refine pure_ (i := 8) (N := some 11) (v := ?_) (a' := ?_) (mb 34 511) rfl rfl (any_of HT_.out (by kernel_rfl)) (fun _ _ _ h => h) (Or.inl ⟨by rfl, ?_⟩) ?_ ?_
    rotate_left; (·intro w'; go_simp; (with_reducible rfl)); rotate_left; (·simp only [Act.put, sA, sZ, sS, i64_w, i32_w]; rfl)
    refine pure_ (i := 9) (N := some 12) (v := ?_) (a' := ?_) (mb 34 1023) rfl rfl (any_of HT_.out (by kernel_rfl)) (fun _ _ _ h => h) (Or.inl ⟨by rfl, ?_⟩) ?_ ?_
    rotate_left; (·intro w'; go_simp; (with_reducible rfl)); rotate_left; (·simp only [Act.put, sA, sZ, sS, i64_w, i32_w]; rfl)
    refine take_ (i := 10) (N := some 13) (v := ?_) (a' := ?_) (mb 34 2047) rfl rfl (take_ofW HT_.out HW_.out (by kernel_rfl)) (fun _ _ _ h => h) (Or.inl ⟨by rfl, ?_⟩) hHeld ?_ ?_
    rotate_left; (·rintro w' ⟨s0, s1, s2, s3, s4, s5, s6⟩; go_simp; (with_reducible rfl)); rotate_left; (·simp only [Act.put, sA, sZ, sS, i64_w, i32_w]; rfl)
    refine one_ (i := 11) (N := some 14) (mb 34 4095) rfl rfl (one_of HT_.out (by kernel_rfl)) (by decide) (fun K hK => ?_)
    refine goes_ Tryd.func48 (by kernel_rfl) rfl #[.int .i64 a0_3, .int .i64 0, .int .i64 23] (by rfl) rfl rfl (by (try simp only [List.map_toArray, List.map_cons, List.map_nil]); first | done | rfl | (simp only [List.length_drop, List.length_take]; rfl)) ?_
    with_reducible refine (impl_between.calls a0_3 0 23 true _ A5.out).mono ?_
    rintro e w' ⟨rfl, ⟨nd, rfl⟩⟩
    refine ⟨_, rfl, ?_⟩
    refine hK.out _ _ ⟨(Ba BK106.out 0).trans rfl, (Ba BK106.out 1).trans rfl, (Ba BK106.out 2).trans rfl, (Ba BK106.out 3).trans rfl, (Ba BK106.out 4).trans rfl, (Ba BK106.out 5).trans rfl, (Ba BK106.out 6).trans rfl⟩ (fun hHeld => ?_)
    clear hK K
    refine norm_ (a' := ?_) ?_ ?_
    rotate_left
    ·show Act.put _ (some 14) _ = _
     simp only [Act.put, sA, sZ, sS, i64_w, i32_w]
     rfl
    refine pure_ (i := 12) (N := some 15) (v := ?_) (a' := ?_) (mb 34 8191) rfl rfl (any_of HT_.out (by kernel_rfl)) (fun _ _ _ h => h) (Or.inl ⟨by rfl, ?_⟩) ?_ ?_
    rotate_left; (·intro w'; go_simp; (with_reducible rfl)); rotate_left; (·simp only [Act.put, sA, sZ, sS, i64_w, i32_w]; rfl)
    refine pure_ (i := 13) (N := some 16) (v := ?_) (a' := ?_) (mb 34 16383) rfl rfl (any_of HT_.out (by kernel_rfl)) (fun _ _ _ h => h) (Or.inl ⟨by rfl, ?_⟩) ?_ ?_
    rotate_left; (·intro w'; go_simp; (with_reducible rfl)); rotate_left; (·simp only [Act.put, sA, sZ, sS, i64_w, i32_w]; rfl)
    refine pure_ (i := 14) (N := some 17) (v := ?_) (a' := ?_) (mb 34 32767) rfl rfl (any_of HT_.out (by kernel_rfl)) (fun _ _ _ h => h) (Or.inl ⟨by rfl, ?_⟩) ?_ ?_
    rotate_left; (·intro w'; go_simp; (with_reducible rfl)); rotate_left; (·simp only [Act.put, sA, sZ, sS, i64_w, i32_w]; rfl)
    refine take_ (i := 15) (N := some 18) (v := ?_) (a' := ?_) (mb 34 65535) rfl rfl (take_ofW HT_.out HW_.out (by kernel_rfl)) (fun _ _ _ h => h) (Or.inl ⟨by rfl, ?_⟩) hHeld ?_ ?_
    rotate_left; (·rintro w' ⟨s0, s1, s2, s3, s4, s5, s6⟩; go_simp; (with_reducible rfl)); rotate_left; (·simp only [Act.put, sA, sZ, sS, i64_w, i32_w]; rfl)
    refine one_ (i := 16) (N := some 19) (mb 34 131071) rfl rfl (one_of HT_.out (by kernel_rfl)) (by decide) (fun K hK => ?_)
    refine goes_ Tryd.func48 (by kernel_rfl) rfl #[.int .i64 a0_4, .int .i64 0, .int .i64 59] (by rfl) rfl rfl (by (try simp only [List.map_toArray, List.map_cons, List.map_nil]); first | done | rfl | (simp only [List.length_drop, List.length_take]; rfl)) ?_
    with_reducible refine (impl_between.calls a0_4 0 59 true _ A7.out).mono ?_
    rintro e w' ⟨rfl, ⟨nd, rfl⟩⟩
    refine ⟨_, rfl, ?_⟩
    refine hK.out _ _ ⟨(Ba BK106.out 0).trans rfl, (Ba BK106.out 1).trans rfl, (Ba BK106.out 2).trans rfl, (Ba BK106.out 3).trans rfl, (Ba BK106.out 4).trans rfl, (Ba BK106.out 5).trans rfl, (Ba BK106.out 6).trans rfl⟩ (fun hHeld => ?_)
    clear hK K
    refine norm_ (a' := ?_) ?_ ?_
    rotate_left
    ·show Act.put _ (some 19) _ = _
     simp only [Act.put, sA, sZ, sS, i64_w, i32_w]
     rfl
    refine pure_ (i := 17) (N := some 20) (v := ?_) (a' := ?_) (mb 34 262143) rfl rfl (any_of HT_.out (by kernel_rfl)) (fun _ _ _ h => h) (Or.inl ⟨by rfl, ?_⟩) ?_ ?_
    rotate_left; (·intro w'; go_simp; (with_reducible rfl)); rotate_left; (·simp only [Act.put, sA, sZ, sS, i64_w, i32_w]; rfl)
    refine pure_ (i := 18) (N := some 21) (v := ?_) (a' := ?_) (mb 34 524287) rfl rfl (any_of HT_.out (by kernel_rfl)) (fun _ _ _ h => h) (Or.inl ⟨by rfl, ?_⟩) ?_ ?_
    rotate_left; (·intro w'; go_simp; (with_reducible rfl)); rotate_left; (·simp only [Act.put, sA, sZ, sS, i64_w, i32_w]; rfl)
    refine pure_ (i := 19) (N := some 22) (v := ?_) (a' := ?_) (mb 34 1048575) rfl rfl (any_of HT_.out (by kernel_rfl)) (fun _ _ _ h => h) (Or.inl ⟨by rfl, ?_⟩) ?_ ?_
    rotate_left; (·intro w'; go_simp; (with_reducible rfl)); rotate_left; (·simp only [Act.put, sA, sZ, sS, i64_w, i32_w]; rfl)
    refine take_ (i := 20) (N := some 23) (v := ?_) (a' := ?_) (mb 34 2097151) rfl rfl (take_ofW HT_.out HW_.out (by kernel_rfl)) (fun _ _ _ h => h) (Or.inl ⟨by rfl, ?_⟩) hHeld ?_ ?_
    rotate_left; (·rintro w' ⟨s0, s1, s2, s3, s4, s5, s6⟩; go_simp; (with_reducible rfl)); rotate_left; (·simp only [Act.put, sA, sZ, sS, i64_w, i32_w]; rfl)
    refine one_ (i := 21) (N := some 24) (mb 34 4194303) rfl rfl (one_of HT_.out (by kernel_rfl)) (by decide) (fun K hK => ?_)
    refine goes_ Tryd.func48 (by kernel_rfl) rfl #[.int .i64 a0_5, .int .i64 0, .int .i64 59] (by rfl) rfl rfl (by (try simp only [List.map_toArray, List.map_cons, List.map_nil]); first | done | rfl | (simp only [List.length_drop, List.length_take]; rfl)) ?_
    with_reducible refine (impl_between.calls a0_5 0 59 false _ A9.out).mono ?_
    rintro e w' ⟨rfl, ⟨nd, rfl⟩⟩
    refine ⟨_, rfl, ?_⟩
    refine hK.out _ _ ⟨(Ba BK106.out 0).trans rfl, (Ba BK106.out 1).trans rfl, (Ba BK106.out 2).trans rfl, (Ba BK106.out 3).trans rfl, (Ba BK106.out 4).trans rfl, (Ba BK106.out 5).trans rfl, (Ba BK106.out 6).trans rfl⟩ (fun hHeld => ?_)
    clear hK K
    refine norm_ (a' := ?_) ?_ ?_
    rotate_left
    ·show Act.put _ (some 24) _ = _
     simp only [Act.put, sA, sZ, sS, i64_w, i32_w]
     rfl
    refine pure_ (i := 22) (N := some 25) (v := ?_) (a' := ?_) (mb 34 8388607) rfl rfl (any_of HT_.out (by kernel_rfl)) (fun _ _ _ h => h) (Or.inl ⟨by rfl, ?_⟩) ?_ ?_
    rotate_left; (·intro w'; go_simp; (with_reducible rfl)); rotate_left; (·simp only [Act.put, sA, sZ, sS, i64_w, i32_w]; rfl)
    refine pure_ (i := 23) (N := some 26) (v := ?_) (a' := ?_) (mb 34 16777215) rfl rfl (any_of HT_.out (by kernel_rfl)) (fun _ _ _ h => h) (Or.inl ⟨by rfl, ?_⟩) ?_ ?_
    rotate_left; (·intro w'; go_simp; (with_reducible rfl)); rotate_left; (·simp only [Act.put, sA, sZ, sS, i64_w, i32_w]; rfl)
    refine pure_ (i := 24) (N := some 27) (v := undef) (a' := ?_) (mb 34 33554431) rfl rfl (any_of HT_.out (by kernel_rfl)) (fun _ _ _ h => h) (Or.inr ⟨by rfl, rfl⟩) ?_ ?_
    rotate_left
    ·simp only [Act.put, sA, sZ, sS, i64_w, i32_w]
     rfl
    refine pure_ (i := 25) (N := some 28) (v := undef) (a' := ?_) (mb 34 67108863) rfl rfl (any_of HT_.out (by kernel_rfl)) (fun _ _ _ h => h) (Or.inr ⟨by rfl, rfl⟩) ?_ ?_
    rotate_left
    ·simp only [Act.put, sA, sZ, sS, i64_w, i32_w]
     rfl
    refine pure_ (i := 26) (N := some 29) (v := undef) (a' := ?_) (mb 34 134217727) rfl rfl (any_of HT_.out (by kernel_rfl)) (fun _ _ _ h => h) (Or.inr ⟨by rfl, rfl⟩) ?_ ?_
    rotate_left
    ·simp only [Act.put, sA, sZ, sS, i64_w, i32_w]
     rfl
    refine pure_ (i := 27) (N := some 30) (v := ?_) (a' := ?_) (mb 34 268435455) rfl rfl (any_of HT_.out (by kernel_rfl)) (fun _ _ _ h => h) (Or.inl ⟨by rfl, ?_⟩) ?_ ?_
    rotate_left; (·intro w'; go_simp; (with_reducible rfl)); rotate_left; (·simp only [Act.put, sA, sZ, sS, i64_w, i32_w]; rfl)
    refine pure_ (i := 28) (N := some 31) (v := ?_) (a' := ?_) (mb 34 536870911) rfl rfl (any_of HT_.out (by kernel_rfl)) (fun _ _ _ h => h) (Or.inl ⟨by rfl, ?_⟩) ?_ ?_
    rotate_left; (·intro w'; go_simp; (with_reducible rfl)); rotate_left; (·simp only [Act.put, sA, sZ, sS, i64_w, i32_w]; rfl)
    refine pure_ (i := 29) (N := some 32) (v := undef) (a' := ?_) (mb 34 1073741823) rfl rfl (any_of HT_.out (by kernel_rfl)) (fun _ _ _ h => h) (Or.inr ⟨by rfl, rfl⟩) ?_ ?_
    rotate_left
    ·simp only [Act.put, sA, sZ, sS, i64_w, i32_w]
     rfl
    refine pure_ (i := 30) (N := some 33) (v := undef) (a' := ?_) (mb 34 2147483647) rfl rfl (any_of HT_.out (by kernel_rfl)) (fun _ _ _ h => h) (Or.inr ⟨by rfl, rfl⟩) ?_ ?_
    rotate_left
    ·simp only [Act.put, sA, sZ, sS, i64_w, i32_w]
     rfl
    refine pure_ (i := 31) (N := some 34) (v := undef) (a' := ?_) (mb 34 4294967295) rfl rfl (any_of HT_.out (by kernel_rfl)) (fun _ _ _ h => h) (Or.inr ⟨by rfl, rfl⟩) ?_ ?_
    rotate_left
    ·simp only [Act.put, sA, sZ, sS, i64_w, i32_w]
     rfl
    refine pure_ (i := 32) (N := some 35) (v := ?_) (a' := ?_) (mb 34 8589934591) rfl rfl (any_of HT_.out (by kernel_rfl)) (fun _ _ _ h => h) (Or.inl ⟨by rfl, ?_⟩) ?_ ?_
    rotate_left; (·intro w'; go_simp; (with_reducible rfl)); rotate_left; (·simp only [Act.put, sA, sZ, sS, i64_w, i32_w]; rfl)
    refine pure_ (i := 33) (N := some 2) (v := ?_) (a' := ?_) (mb 34 17179869183) rfl rfl (any_of HT_.out (by kernel_rfl)) (fun _ _ _ h => h) (Or.inl ⟨by rfl, ?_⟩) ?_ ?_
    rotate_left; (·intro w'; go_simp; (with_reducible rfl)); rotate_left; (·simp only [Act.put, sA, sZ, sS, i64_w, i32_w]; rfl)
    refine done_ (done_of HT_.out (by kernel_rfl)) ?_
    try go_wp2
    go_ret
    exact ⟨by first | rfl | (simp [errW_none, errW_some] <;> rfl) | (simp [*, errW_none, errW_some] <;> rfl), by repeat (first | (with_reducible first | exact HB.out | apply Be | apply Bc | apply Bd | refine below_set ?_ GE106.out) | exact HB.out)⟩
   replace c8 := Bool.eq_false_iff.mpr c8
   subst c8
   have H1 : (some false) = some r := by rw [if_neg (show ¬ (false = true) by decide)] at H; exact H
   clear H; have H := H1; clear H1
   obtain rfl := Option.some.inj H
   go_enter Tryd.func18, Tryd.ntmps18
   try go_wp2_with (first | ((with_reducible refine gate_dst (N := 1) rfl ?_); refine box_event ?hg (N := 1) ?hd (cs := #[.int .i64 a0_0, .int .i64 a0_1, .int .i64 a0_2, .int .i64 a0_3, .int .i64 a0_4, .int .i64 a0_5, .int .i64 a0_6]) (t := 24) ?hr ?_; (case hd => rfl); (case hg => rfl); (case hr => first | (go_simp; done) | (go_simp; rfl)); intro gb106 hg w22 hbox hb; have n0_ := Aside0.mk (below_step (by repeat (first | (with_reducible first | exact HB.out | apply Be | apply Bc | apply Bd) | exact HB.out)) hb); have n1_ := Aside0.mk (hbox); have n2_ := Aside0.mk ((by rw [hg]; exact (below_size (by repeat (first | (with_reducible first | exact HB.out | apply Be | apply Bc | apply Bd) | exact HB.out))) : w.heap.size ≤ gb106)); have n3_ := Aside0.mk ((by rw [hg]; exact (below_size (by repeat (first | (with_reducible first | exact HB.out | apply Be | apply Bc | apply Bd) | exact HB.out))) : w.heap.size ≤ gb106)); clear HB; have HB := n0_; have BK106 := n1_; have GW106 := n2_; have GE106 := n3_; clear n0_ n1_ n2_ n3_; clear hb hbox hg))
   have n0_ := Aside0.mk (Bh BK106.out); have n1_ := Aside0.mk (Bd HB.out); clear BK106; clear HB; have BK106 := n0_; have HB := n1_; clear n0_ n1_
   refine start_ (n := 34) (S := fun w' => w'.cell? ⟨gb106, 0, none⟩ = some (.int .i64 a0_0) ∧ w'.cell? ⟨gb106, 1, none⟩ = some (.int .i64 a0_1) ∧ w'.cell? ⟨gb106, 2, none⟩ = some (.int .i64 a0_2) ∧ w'.cell? ⟨gb106, 3, none⟩ = some (.int .i64 a0_3) ∧ w'.cell? ⟨gb106, 4, none⟩ = some (.int .i64 a0_4) ∧ w'.cell? ⟨gb106, 5, none⟩ = some (.int .i64 a0_5) ∧ w'.cell? ⟨gb106, 6, none⟩ = some (.int .i64 a0_6)) (ds := []) #[X,X,X,X,X,X,X,X,X,X,X,X,X,X,X,X,X,X,X,X,X,X,X,X,X,X,X,X,X,X,X,X,X,X] (by kernel_rfl) rfl rfl ⟨(Ba BK106.out 0).trans rfl, (Ba BK106.out 1).trans rfl, (Ba BK106.out 2).trans rfl, (Ba BK106.out 3).trans rfl, (Ba BK106.out 4).trans rfl, (Ba BK106.out 5).trans rfl, (Ba BK106.out 6).trans rfl⟩ (fun hHeld => ?_); refine with_tabW impl_DateValid.tab1 impl_DateValid.bits1 (fun HT_ HW_ => ?_)
   generalize w22.drew = w23 at BK106 HB hHeld ⊢
   refine pure_ (i := 0) (N := some 3) (v := ?_) (a' := ?_) (mb 34 1) rfl rfl (any_of HT_.out (by kernel_rfl)) (fun _ _ _ h => h) (Or.inl ⟨by rfl, ?_⟩) ?_ ?_
   rotate_left; (·intro w'; go_simp; (with_reducible rfl)); rotate_left; (·simp only [Act.put, sA, sZ, sS, i64_w, i32_w]; rfl)
   refine pure_ (i := 2) (N := some 5) (v := ?_) (a' := ?_) (mb 34 5) rfl rfl (any_of HT_.out (by kernel_rfl)) (fun _ _ _ h => h) (Or.inl ⟨by rfl, ?_⟩) ?_ ?_
   rotate_left; (·intro w'; go_simp; (with_reducible rfl)); rotate_left; (·simp only [Act.put, sA, sZ, sS, i64_w, i32_w]; rfl)
   refine pure_ (i := 4) (N := some 7) (v := ?_) (a' := ?_) (mb 34 21) rfl rfl (any_of HT_.out (by kernel_rfl)) (fun _ _ _ h => h) (Or.inl ⟨by rfl, ?_⟩) ?_ ?_
   rotate_left; (·intro w'; go_simp; (with_reducible rfl)); rotate_left; (·simp only [Act.put, sA, sZ, sS, i64_w, i32_w]; rfl)
   refine take_ (i := 1) (N := some 4) (v := ?_) (a' := ?_) (mb 34 23) rfl rfl (take_ofW HT_.out HW_.out (by kernel_rfl)) (fun _ _ _ h => h) (Or.inl ⟨by rfl, ?_⟩) hHeld ?_ ?_
   rotate_left; (·rintro w' ⟨s0, s1, s2, s3, s4, s5, s6⟩; go_simp; (with_reducible rfl)); rotate_left; (·simp only [Act.put, sA, sZ, sS, i64_w, i32_w]; rfl)
   refine take_ (i := 3) (N := some 6) (v := ?_) (a' := ?_) (mb 34 31) rfl rfl (take_ofW HT_.out HW_.out (by kernel_rfl)) (fun _ _ _ h => h) (Or.inl ⟨by rfl, ?_⟩) hHeld ?_ ?_
   rotate_left; (·rintro w' ⟨s0, s1, s2, s3, s4, s5, s6⟩; go_simp; (with_reducible rfl)); rotate_left; (·simp only [Act.put, sA, sZ, sS, i64_w, i32_w]; rfl)
   refine take_ (i := 5) (N := some 8) (v := ?_) (a' := ?_) (mb 34 63) rfl rfl (take_ofW HT_.out HW_.out (by kernel_rfl)) (fun _ _ _ h => h) (Or.inl ⟨by rfl, ?_⟩) hHeld ?_ ?_
   rotate_left; (·rintro w' ⟨s0, s1, s2, s3, s4, s5, s6⟩; go_simp; (with_reducible rfl)); rotate_left; (·simp only [Act.put, sA, sZ, sS, i64_w, i32_w]; rfl)
   refine one_ (i := 6) (N := some 9) (mb 34 127) rfl rfl (one_of HT_.out (by kernel_rfl)) (by decide) (fun K hK => ?_)
   refine goes_ Tryd.func49 (by kernel_rfl) rfl #[.int .i64 a0_0, .int .i64 a0_1] (by rfl) rfl rfl (by (try simp only [List.map_toArray, List.map_cons, List.map_nil]); first | done | rfl | (simp only [List.length_drop, List.length_take]; rfl)) ?_
   with_reducible refine (impl_DaysOf.calls k a0_0 a0_1 t107 _ A2.out).mono ?_
   rintro e w' ⟨rfl, ⟨nd, rfl⟩⟩
   refine ⟨_, rfl, ?_⟩
   refine hK.out _ _ ⟨(Ba BK106.out 0).trans rfl, (Ba BK106.out 1).trans rfl, (Ba BK106.out 2).trans rfl, (Ba BK106.out 3).trans rfl, (Ba BK106.out 4).trans rfl, (Ba BK106.out 5).trans rfl, (Ba BK106.out 6).trans rfl⟩ (fun hHeld => ?_)
   clear hK K
   refine norm_ (a' := ?_) ?_ ?_
   rotate_left
   ·show Act.put _ (some 9) _ = _
    simp only [Act.put, sA, sZ, sS, i64_w, i32_w]
    rfl
   refine one_ (i := 7) (N := some 10) (mb 34 255) rfl rfl (one_of HT_.out (by kernel_rfl)) (by decide) (fun K hK => ?_)
   refine goes_ Tryd.func48 (by kernel_rfl) rfl #[.int .i64 a0_2, .int .i64 1, .int .i64 t107] (by rfl) rfl rfl (by (try simp only [List.map_toArray, List.map_cons, List.map_nil]); first | done | rfl | (simp only [List.length_drop, List.length_take]; rfl)) ?_
   with_reducible refine (impl_between.calls a0_2 1 t107 true _ A3.out).mono ?_
   rintro e w' ⟨rfl, ⟨nd, rfl⟩⟩
   refine ⟨_, rfl, ?_⟩
   refine hK.out _ _ ⟨(Ba BK106.out 0).trans rfl, (Ba BK106.out 1).trans rfl, (Ba BK106.out 2).trans rfl, (Ba BK106.out 3).trans rfl, (Ba BK106.out 4).trans rfl, (Ba BK106.out 5).trans rfl, (Ba BK106.out 6).trans rfl⟩ (fun hHeld => ?_)
   clear hK K
   refine norm_ (a' := ?_) ?_ ?_
   rotate_left
   ·show Act.put _ (some 10) _ = _
    simp only [Act.put, sA, sZ, sS, i64_w, i32_w]
    rfl
   refine pure_ (i := 8) (N := some 11) (v := ?_) (a' := ?_) (mb 34 511) rfl rfl (any_of HT_.out (by kernel_rfl)) (fun _ _ _ h => h) (Or.inl ⟨by rfl, ?_⟩) ?_ ?_
   rotate_left; (·intro w'; go_simp; (with_reducible rfl)); rotate_left; (·simp only [Act.put, sA, sZ, sS, i64_w, i32_w]; rfl)
   refine pure_ (i := 9) (N := some 12) (v := ?_) (a' := ?_) (mb 34 1023) rfl rfl (any_of HT_.out (by kernel_rfl)) (fun _ _ _ h => h) (Or.inl ⟨by rfl, ?_⟩) ?_ ?_
   rotate_left; (·intro w'; go_simp; (with_reducible rfl)); rotate_left; (·simp only [Act.put, sA, sZ, sS, i64_w, i32_w]; rfl)
   refine take_ (i := 10) (N := some 13) (v := ?_) (a' := ?_) (mb 34 2047) rfl rfl (take_ofW HT_.out HW_.out (by kernel_rfl)) (fun _ _ _ h => h) (Or.inl ⟨by rfl, ?_⟩) hHeld ?_ ?_
   rotate_left; (·rintro w' ⟨s0, s1, s2, s3, s4, s5, s6⟩; go_simp; (with_reducible rfl)); rotate_left; (·simp only [Act.put, sA, sZ, sS, i64_w, i32_w]; rfl)
   refine one_ (i := 11) (N := some 14) (mb 34 4095) rfl rfl (one_of HT_.out (by kernel_rfl)) (by decide) (fun K hK => ?_)
   refine goes_ Tryd.func48 (by kernel_rfl) rfl #[.int .i64 a0_3, .int .i64 0, .int .i64 23] (by rfl) rfl rfl (by (try simp only [List.map_toArray, List.map_cons, List.map_nil]); first | done | rfl | (simp only [List.length_drop, List.length_take]; rfl)) ?_
   with_reducible refine (impl_between.calls a0_3 0 23 true _ A5.out).mono ?_
   rintro e w' ⟨rfl, ⟨nd, rfl⟩⟩
   refine ⟨_, rfl, ?_⟩
   refine hK.out _ _ ⟨(Ba BK106.out 0).trans rfl, (Ba BK106.out 1).trans rfl, (Ba BK106.out 2).trans rfl, (Ba BK106.out 3).trans rfl, (Ba BK106.out 4).trans rfl, (Ba BK106.out 5).trans rfl, (Ba BK106.out 6).trans rfl⟩ (fun hHeld => ?_)
   clear hK K
   refine norm_ (a' := ?_) ?_ ?_
   rotate_left
   ·show Act.put _ (some 14) _ = _
    simp only [Act.put, sA, sZ, sS, i64_w, i32_w]
    rfl
   refine pure_ (i := 12) (N := some 15) (v := ?_) (a' := ?_) (mb 34 8191) rfl rfl (any_of HT_.out (by kernel_rfl)) (fun _ _ _ h => h) (Or.inl ⟨by rfl, ?_⟩) ?_ ?_
   rotate_left; (·intro w'; go_simp; (with_reducible rfl)); rotate_left; (·simp only [Act.put, sA, sZ, sS, i64_w, i32_w]; rfl)
   refine pure_ (i := 13) (N := some 16) (v := ?_) (a' := ?_) (mb 34 16383) rfl rfl (any_of HT_.out (by kernel_rfl)) (fun _ _ _ h => h) (Or.inl ⟨by rfl, ?_⟩) ?_ ?_
   rotate_left; (·intro w'; go_simp; (with_reducible rfl)); rotate_left; (·simp only [Act.put, sA, sZ, sS, i64_w, i32_w]; rfl)
   refine pure_ (i := 14) (N := some 17) (v := ?_) (a' := ?_) (mb 34 32767) rfl rfl (any_of HT_.out (by kernel_rfl)) (fun _ _ _ h => h) (Or.inl ⟨by rfl, ?_⟩) ?_ ?_
   rotate_left; (·intro w'; go_simp; (with_reducible rfl)); rotate_left; (·simp only [Act.put, sA, sZ, sS, i64_w, i32_w]; rfl)
   refine take_ (i := 15) (N := some 18) (v := ?_) (a' := ?_) (mb 34 65535) rfl rfl (take_ofW HT_.out HW_.out (by kernel_rfl)) (fun _ _ _ h => h) (Or.inl ⟨by rfl, ?_⟩) hHeld ?_ ?_
   rotate_left; (·rintro w' ⟨s0, s1, s2, s3, s4, s5, s6⟩; go_simp; (with_reducible rfl)); rotate_left; (·simp only [Act.put, sA, sZ, sS, i64_w, i32_w]; rfl)
   refine one_ (i := 16) (N := some 19) (mb 34 131071) rfl rfl (one_of HT_.out (by kernel_rfl)) (by decide) (fun K hK => ?_)
   refine goes_ Tryd.func48 (by kernel_rfl) rfl #[.int .i64 a0_4, .int .i64 0, .int .i64 59] (by rfl) rfl rfl (by (try simp only [List.map_toArray, List.map_cons, List.map_nil]); first | done | rfl | (simp only [List.length_drop, List.length_take]; rfl)) ?_
   with_reducible refine (impl_between.calls a0_4 0 59 false _ A7.out).mono ?_
   rintro e w' ⟨rfl, ⟨nd, rfl⟩⟩
   refine ⟨_, rfl, ?_⟩
   refine hK.out _ _ ⟨(Ba BK106.out 0).trans rfl, (Ba BK106.out 1).trans rfl, (Ba BK106.out 2).trans rfl, (Ba BK106.out 3).trans rfl, (Ba BK106.out 4).trans rfl, (Ba BK106.out 5).trans rfl, (Ba BK106.out 6).trans rfl⟩ (fun hHeld => ?_)
   clear hK K
   refine norm_ (a' := ?_) ?_ ?_
   rotate_left
   ·show Act.put _ (some 19) _ = _
    simp only [Act.put, sA, sZ, sS, i64_w, i32_w]
    rfl
   refine pure_ (i := 17) (N := some 20) (v := ?_) (a' := ?_) (mb 34 262143) rfl rfl (any_of HT_.out (by kernel_rfl)) (fun _ _ _ h => h) (Or.inl ⟨by rfl, ?_⟩) ?_ ?_
   rotate_left; (·intro w'; go_simp; (with_reducible rfl)); rotate_left; (·simp only [Act.put, sA, sZ, sS, i64_w, i32_w]; rfl)
   refine pure_ (i := 18) (N := some 21) (v := ?_) (a' := ?_) (mb 34 524287) rfl rfl (any_of HT_.out (by kernel_rfl)) (fun _ _ _ h => h) (Or.inl ⟨by rfl, ?_⟩) ?_ ?_
   rotate_left; (·intro w'; go_simp; (with_reducible rfl)); rotate_left; (·simp only [Act.put, sA, sZ, sS, i64_w, i32_w]; rfl)
   refine pure_ (i := 19) (N := some 22) (v := undef) (a' := ?_) (mb 34 1048575) rfl rfl (any_of HT_.out (by kernel_rfl)) (fun _ _ _ h => h) (Or.inr ⟨by rfl, rfl⟩) ?_ ?_
   rotate_left
   ·simp only [Act.put, sA, sZ, sS, i64_w, i32_w]
    rfl
   refine pure_ (i := 20) (N := some 23) (v := undef) (a' := ?_) (mb 34 2097151) rfl rfl (any_of HT_.out (by kernel_rfl)) (fun _ _ _ h => h) (Or.inr ⟨by rfl, rfl⟩) ?_ ?_
   rotate_left
   ·simp only [Act.put, sA, sZ, sS, i64_w, i32_w]
    rfl
   refine pure_ (i := 21) (N := some 24) (v := undef) (a' := ?_) (mb 34 4194303) rfl rfl (any_of HT_.out (by kernel_rfl)) (fun _ _ _ h => h) (Or.inr ⟨by rfl, rfl⟩) ?_ ?_
   rotate_left
   ·simp only [Act.put, sA, sZ, sS, i64_w, i32_w]
    rfl
   refine pure_ (i := 22) (N := some 25) (v := ?_) (a' := ?_) (mb 34 8388607) rfl rfl (any_of HT_.out (by kernel_rfl)) (fun _ _ _ h => h) (Or.inl ⟨by rfl, ?_⟩) ?_ ?_
   rotate_left; (·intro w'; go_simp; (with_reducible rfl)); rotate_left; (·simp only [Act.put, sA, sZ, sS, i64_w, i32_w]; rfl)
   refine pure_ (i := 23) (N := some 26) (v := ?_) (a' := ?_) (mb 34 16777215) rfl rfl (any_of HT_.out (by kernel_rfl)) (fun _ _ _ h => h) (Or.inl ⟨by rfl, ?_⟩) ?_ ?_
   rotate_left; (·intro w'; go_simp; (with_reducible rfl)); rotate_left; (·simp only [Act.put, sA, sZ, sS, i64_w, i32_w]; rfl)
   refine pure_ (i := 24) (N := some 27) (v := undef) (a' := ?_) (mb 34 33554431) rfl rfl (any_of HT_.out (by kernel_rfl)) (fun _ _ _ h => h) (Or.inr ⟨by rfl, rfl⟩) ?_ ?_
   rotate_left
   ·simp only [Act.put, sA, sZ, sS, i64_w, i32_w]
    rfl
   refine pure_ (i := 25) (N := some 28) (v := undef) (a' := ?_) (mb 34 67108863) rfl rfl (any_of HT_.out (by kernel_rfl)) (fun _ _ _ h => h) (Or.inr ⟨by rfl, rfl⟩) ?_ ?_
   rotate_left
   ·simp only [Act.put, sA, sZ, sS, i64_w, i32_w]
    rfl
   refine pure_ (i := 26) (N := some 29) (v := undef) (a' := ?_) (mb 34 134217727) rfl rfl (any_of HT_.out (by kernel_rfl)) (fun _ _ _ h => h) (Or.inr ⟨by rfl, rfl⟩) ?_ ?_
   rotate_left
   ·simp only [Act.put, sA, sZ, sS, i64_w, i32_w]
    rfl
   refine pure_ (i := 27) (N := some 30) (v := ?_) (a' := ?_) (mb 34 268435455) rfl rfl (any_of HT_.out (by kernel_rfl)) (fun _ _ _ h => h) (Or.inl ⟨by rfl, ?_⟩) ?_ ?_
   rotate_left; (·intro w'; go_simp; (with_reducible rfl)); rotate_left; (·simp only [Act.put, sA, sZ, sS, i64_w, i32_w]; rfl)
   refine pure_ (i := 28) (N := some 31) (v := ?_) (a' := ?_) (mb 34 536870911) rfl rfl (any_of HT_.out (by kernel_rfl)) (fun _ _ _ h => h) (Or.inl ⟨by rfl, ?_⟩) ?_ ?_
   rotate_left; (·intro w'; go_simp; (with_reducible rfl)); rotate_left; (·simp only [Act.put, sA, sZ, sS, i64_w, i32_w]; rfl)
   refine pure_ (i := 29) (N := some 32) (v := undef) (a' := ?_) (mb 34 1073741823) rfl rfl (any_of HT_.out (by kernel_rfl)) (fun _ _ _ h => h) (Or.inr ⟨by rfl, rfl⟩) ?_ ?_
   rotate_left
   ·simp only [Act.put, sA, sZ, sS, i64_w, i32_w]
    rfl
   refine pure_ (i := 30) (N := some 33) (v := undef) (a' := ?_) (mb 34 2147483647) rfl rfl (any_of HT_.out (by kernel_rfl)) (fun _ _ _ h => h) (Or.inr ⟨by rfl, rfl⟩) ?_ ?_
   rotate_left
   ·simp only [Act.put, sA, sZ, sS, i64_w, i32_w]
    rfl
   refine pure_ (i := 31) (N := some 34) (v := undef) (a' := ?_) (mb 34 4294967295) rfl rfl (any_of HT_.out (by kernel_rfl)) (fun _ _ _ h => h) (Or.inr ⟨by rfl, rfl⟩) ?_ ?_
   rotate_left
   ·simp only [Act.put, sA, sZ, sS, i64_w, i32_w]
    rfl
   refine pure_ (i := 32) (N := some 35) (v := ?_) (a' := ?_) (mb 34 8589934591) rfl rfl (any_of HT_.out (by kernel_rfl)) (fun _ _ _ h => h) (Or.inl ⟨by rfl, ?_⟩) ?_ ?_
   rotate_left; (·intro w'; go_simp; (with_reducible rfl)); rotate_left; (·simp only [Act.put, sA, sZ, sS, i64_w, i32_w]; rfl)
   refine pure_ (i := 33) (N := some 2) (v := ?_) (a' := ?_) (mb 34 17179869183) rfl rfl (any_of HT_.out (by kernel_rfl)) (fun _ _ _ h => h) (Or.inl ⟨by rfl, ?_⟩) ?_ ?_
   rotate_left; (·intro w'; go_simp; (with_reducible rfl)); rotate_left; (·simp only [Act.put, sA, sZ, sS, i64_w, i32_w]; rfl)
   refine done_ (done_of HT_.out (by kernel_rfl)) ?_
   try go_wp2
   go_ret
   exact ⟨by first | rfl | (simp [errW_none, errW_some] <;> rfl) | (simp [*, errW_none, errW_some] <;> rfl), by repeat (first | (with_reducible first | exact HB.out | apply Be | apply Bc | apply Bd | refine below_set ?_ GE106.out) | exact HB.out)⟩
  replace c6 := Bool.eq_false_iff.mpr c6
  subst c6
  have H1 : (some false) = some r := by rw [if_neg (show ¬ (false = true) by decide)] at H; exact H
  clear H; have H := H1; clear H1
  obtain rfl := Option.some.inj H
  go_enter Tryd.func18, Tryd.ntmps18
  try go_wp2_with (first | ((with_reducible refine gate_dst (N := 1) rfl ?_); refine box_event ?hg (N := 1) ?hd (cs := #[.int .i64 a0_0, .int .i64 a0_1, .int .i64 a0_2, .int .i64 a0_3, .int .i64 a0_4, .int .i64 a0_5, .int .i64 a0_6]) (t := 24) ?hr ?_; (case hd => rfl); (case hg => rfl); (case hr => first | (go_simp; done) | (go_simp; rfl)); intro gb106 hg w24 hbox hb; have n0_ := Aside0.mk (below_step (by repeat (first | (with_reducible first | exact HB.out | apply Be | apply Bc | apply Bd) | exact HB.out)) hb); have n1_ := Aside0.mk (hbox); have n2_ := Aside0.mk ((by rw [hg]; exact (below_size (by repeat (first | (with_reducible first | exact HB.out | apply Be | apply Bc | apply Bd) | exact HB.out))) : w.heap.size ≤ gb106)); have n3_ := Aside0.mk ((by rw [hg]; exact (below_size (by repeat (first | (with_reducible first | exact HB.out | apply Be | apply Bc | apply Bd) | exact HB.out))) : w.heap.size ≤ gb106)); clear HB; have HB := n0_; have BK106 := n1_; have GW106 := n2_; have GE106 := n3_; clear n0_ n1_ n2_ n3_; clear hb hbox hg))
  have n0_ := Aside0.mk (Bh BK106.out); have n1_ := Aside0.mk (Bd HB.out); clear BK106; clear HB; have BK106 := n0_; have HB := n1_; clear n0_ n1_
  refine start_ (n := 34) (S := fun w' => w'.cell? ⟨gb106, 0, none⟩ = some (.int .i64 a0_0) ∧ w'.cell? ⟨gb106, 1, none⟩ = some (.int .i64 a0_1) ∧ w'.cell? ⟨gb106, 2, none⟩ = some (.int .i64 a0_2) ∧ w'.cell? ⟨gb106, 3, none⟩ = some (.int .i64 a0_3) ∧ w'.cell? ⟨gb106, 4, none⟩ = some (.int .i64 a0_4) ∧ w'.cell? ⟨gb106, 5, none⟩ = some (.int .i64 a0_5) ∧ w'.cell? ⟨gb106, 6, none⟩ = some (.int .i64 a0_6)) (ds := []) #[X,X,X,X,X,X,X,X,X,X,X,X,X,X,X,X,X,X,X,X,X,X,X,X,X,X,X,X,X,X,X,X,X,X] (by kernel_rfl) rfl rfl ⟨(Ba BK106.out 0).trans rfl, (Ba BK106.out 1).trans rfl, (Ba BK106.out 2).trans rfl, (Ba BK106.out 3).trans rfl, (Ba BK106.out 4).trans rfl, (Ba BK106.out 5).trans rfl, (Ba BK106.out 6).trans rfl⟩ (fun hHeld => ?_); refine with_tabW impl_DateValid.tab1 impl_DateValid.bits1 (fun HT_ HW_ => ?_)
  generalize w24.drew = w25 at BK106 HB hHeld ⊢
  refine pure_ (i := 0) (N := some 3) (v := ?_) (a' := ?_) (mb 34 1) rfl rfl (any_of HT_.out (by kernel_rfl)) (fun _ _ _ h => h) (Or.inl ⟨by rfl, ?_⟩) ?_ ?_
  rotate_left; (·intro w'; go_simp; (with_reducible rfl)); rotate_left; (·simp only [Act.put, sA, sZ, sS, i64_w, i32_w]; rfl)
  refine pure_ (i := 2) (N := some 5) (v := ?_) (a' := ?_) (mb 34 5) rfl rfl (any_of HT_.out (by kernel_rfl)) (fun _ _ _ h => h) (Or.inl ⟨by rfl, ?_⟩) ?_ ?_
  rotate_left; (·intro w'; go_simp; (with_reducible rfl)); rotate_left; (·simp only [Act.put, sA, sZ, sS, i64_w, i32_w]; rfl)
  refine pure_ (i := 4) (N := some 7) (v := ?_) (a' := ?_) (mb 34 21) rfl rfl (any_of HT_.out (by kernel_rfl)) (fun _ _ _ h => h) (Or.inl ⟨by rfl, ?_⟩) ?_ ?_
  rotate_left; (·intro w'; go_simp; (with_reducible rfl)); rotate_left; (·simp only [Act.put, sA, sZ, sS, i64_w, i32_w]; rfl)
  refine take_ (i := 1) (N := some 4) (v := ?_) (a' := ?_) (mb 34 23) rfl rfl (take_ofW HT_.out HW_.out (by kernel_rfl)) (fun _ _ _ h => h) (Or.inl ⟨by rfl, ?_⟩) hHeld ?_ ?_
  rotate_left; (·rintro w' ⟨s0, s1, s2, s3, s4, s5, s6⟩; go_simp; (with_reducible rfl)); rotate_left; (·simp only [Act.put, sA, sZ, sS, i64_w, i32_w]; rfl)
  refine take_ (i := 3) (N := some 6) (v := ?_) (a' := ?_) (mb 34 31) rfl rfl (take_ofW HT_.out HW_.out (by kernel_rfl)) (fun _ _ _ h => h) (Or.inl ⟨by rfl, ?_⟩) hHeld ?_ ?_
  rotate_left; (·rintro w' ⟨s0, s1, s2, s3, s4, s5, s6⟩; go_simp; (with_reducible rfl)); rotate_left; (·simp only [Act.put, sA, sZ, sS, i64_w, i32_w]; rfl)
  refine take_ (i := 5) (N := some 8) (v := ?_) (a' := ?_) (mb 34 63) rfl rfl (take_ofW HT_.out HW_.out (by kernel_rfl)) (fun _ _ _ h => h) (Or.inl ⟨by rfl, ?_⟩) hHeld ?_ ?_
  rotate_left; (·rintro w' ⟨s0, s1, s2, s3, s4, s5, s6⟩; go_simp; (with_reducible rfl)); rotate_left; (·simp only [Act.put, sA, sZ, sS, i64_w, i32_w]; rfl)
  refine one_ (i := 6) (N := some 9) (mb 34 127) rfl rfl (one_of HT_.out (by kernel_rfl)) (by decide) (fun K hK => ?_)
  refine goes_ Tryd.func49 (by kernel_rfl) rfl #[.int .i64 a0_0, .int .i64 a0_1] (by rfl) rfl rfl (by (try simp only [List.map_toArray, List.map_cons, List.map_nil]); first | done | rfl | (simp only [List.length_drop, List.length_take]; rfl)) ?_
  with_reducible refine (impl_DaysOf.calls k a0_0 a0_1 t107 _ A2.out).mono ?_
  rintro e w' ⟨rfl, ⟨nd, rfl⟩⟩
  refine ⟨_, rfl, ?_⟩
  refine hK.out _ _ ⟨(Ba BK106.out 0).trans rfl, (Ba BK106.out 1).trans rfl, (Ba BK106.out 2).trans rfl, (Ba BK106.out 3).trans rfl, (Ba BK106.out 4).trans rfl, (Ba BK106.out 5).trans rfl, (Ba BK106.out 6).trans rfl⟩ (fun hHeld => ?_)
  clear hK K
  refine norm_ (a' := ?_) ?_ ?_
  rotate_left
  ·show Act.put _ (some 9) _ = _
   simp only [Act.put, sA, sZ, sS, i64_w, i32_w]
   rfl
  refine one_ (i := 7) (N := some 10) (mb 34 255) rfl rfl (one_of HT_.out (by kernel_rfl)) (by decide) (fun K hK => ?_)
  refine goes_ Tryd.func48 (by kernel_rfl) rfl #[.int .i64 a0_2, .int .i64 1, .int .i64 t107] (by rfl) rfl rfl (by (try simp only [List.map_toArray, List.map_cons, List.map_nil]); first | done | rfl | (simp only [List.length_drop, List.length_take]; rfl)) ?_
  with_reducible refine (impl_between.calls a0_2 1 t107 true _ A3.out).mono ?_
  rintro e w' ⟨rfl, ⟨nd, rfl⟩⟩
  refine ⟨_, rfl, ?_⟩
  refine hK.out _ _ ⟨(Ba BK106.out 0).trans rfl, (Ba BK106.out 1).trans rfl, (Ba BK106.out 2).trans rfl, (Ba BK106.out 3).trans rfl, (Ba BK106.out 4).trans rfl, (Ba BK106.out 5).trans rfl, (Ba BK106.out 6).trans rfl⟩ (fun hHeld => ?_)
  clear hK K
  refine norm_ (a' := ?_) ?_ ?_
  rotate_left
  ·show Act.put _ (some 10) _ = _
   simp only [Act.put, sA, sZ, sS, i64_w, i32_w]
   rfl
  refine pure_ (i := 8) (N := some 11) (v := ?_) (a' := ?_) (mb 34 511) rfl rfl (any_of HT_.out (by kernel_rfl)) (fun _ _ _ h => h) (Or.inl ⟨by rfl, ?_⟩) ?_ ?_
  rotate_left; (·intro w'; go_simp; (with_reducible rfl)); rotate_left; (·simp only [Act.put, sA, sZ, sS, i64_w, i32_w]; rfl)
  refine pure_ (i := 9) (N := some 12) (v := ?_) (a' := ?_) (mb 34 1023) rfl rfl (any_of HT_.out (by kernel_rfl)) (fun _ _ _ h => h) (Or.inl ⟨by rfl, ?_⟩) ?_ ?_
  rotate_left; (·intro w'; go_simp; (with_reducible rfl)); rotate_left; (·simp only [Act.put, sA, sZ, sS, i64_w, i32_w]; rfl)
  refine take_ (i := 10) (N := some 13) (v := ?_) (a' := ?_) (mb 34 2047) rfl rfl (take_ofW HT_.out HW_.out (by kernel_rfl)) (fun _ _ _ h => h) (Or.inl ⟨by rfl, ?_⟩) hHeld ?_ ?_
  rotate_left; (·rintro w' ⟨s0, s1, s2, s3, s4, s5, s6⟩; go_simp; (with_reducible rfl)); rotate_left; (·simp only [Act.put, sA, sZ, sS, i64_w, i32_w]; rfl)
  refine one_ (i := 11) (N := some 14) (mb 34 4095) rfl rfl (one_of HT_.out (by kernel_rfl)) (by decide) (fun K hK => ?_)
  refine goes_ Tryd.func48 (by kernel_rfl) rfl #[.int .i64 a0_3, .int .i64 0, .int .i64 23] (by rfl) rfl rfl (by (try simp only [List.map_toArray, List.map_cons, List.map_nil]); first | done | rfl | (simp only [List.length_drop, List.length_take]; rfl)) ?_
  with_reducible refine (impl_between.calls a0_3 0 23 false _ A5.out).mono ?_
  rintro e w' ⟨rfl, ⟨nd, rfl⟩⟩
  refine ⟨_, rfl, ?_⟩
  refine hK.out _ _ ⟨(Ba BK106.out 0).trans rfl, (Ba BK106.out 1).trans rfl, (Ba BK106.out 2).trans rfl, (Ba BK106.out 3).trans rfl, (Ba BK106.out 4).trans rfl, (Ba BK106.out 5).trans rfl, (Ba BK106.out 6).trans rfl⟩ (fun hHeld => ?_)
  clear hK K
  refine norm_ (a' := ?_) ?_ ?_
  rotate_left
  ·show Act.put _ (some 14) _ = _
   simp only [Act.put, sA, sZ, sS, i64_w, i32_w]
   rfl
  refine pure_ (i := 12) (N := some 15) (v := ?_) (a' := ?_) (mb 34 8191) rfl rfl (any_of HT_.out (by kernel_rfl)) (fun _ _ _ h => h) (Or.inl ⟨by rfl, ?_⟩) ?_ ?_
  rotate_left; (·intro w'; go_simp; (with_reducible rfl)); rotate_left; (·simp only [Act.put, sA, sZ, sS, i64_w, i32_w]; rfl)
  refine pure_ (i := 13) (N := some 16) (v := ?_) (a' := ?_) (mb 34 16383) rfl rfl (any_of HT_.out (by kernel_rfl)) (fun _ _ _ h => h) (Or.inl ⟨by rfl, ?_⟩) ?_ ?_
  rotate_left; (·intro w'; go_simp; (with_reducible rfl)); rotate_left; (·simp only [Act.put, sA, sZ, sS, i64_w, i32_w]; rfl)
  refine pure_ (i := 14) (N := some 17) (v := undef) (a' := ?_) (mb 34 32767) rfl rfl (any_of HT_.out (by kernel_rfl)) (fun _ _ _ h => h) (Or.inr ⟨by rfl, rfl⟩) ?_ ?_
  rotate_left
  ·simp only [Act.put, sA, sZ, sS, i64_w, i32_w]
   rfl
  refine pure_ (i := 15) (N := some 18) (v := undef) (a' := ?_) (mb 34 65535) rfl rfl (any_of HT_.out (by kernel_rfl)) (fun _ _ _ h => h) (Or.inr ⟨by rfl, rfl⟩) ?_ ?_
  rotate_left
  ·simp only [Act.put, sA, sZ, sS, i64_w, i32_w]
   rfl
  refine pure_ (i := 16) (N := some 19) (v := undef) (a' := ?_) (mb 34 131071) rfl rfl (any_of HT_.out (by kernel_rfl)) (fun _ _ _ h => h) (Or.inr ⟨by rfl, rfl⟩) ?_ ?_
  rotate_left
  ·simp only [Act.put, sA, sZ, sS, i64_w, i32_w]
   rfl
  refine pure_ (i := 17) (N := some 20) (v := ?_) (a' := ?_) (mb 34 262143) rfl rfl (any_of HT_.out (by kernel_rfl)) (fun _ _ _ h => h) (Or.inl ⟨by rfl, ?_⟩) ?_ ?_
  rotate_left; (·intro w'; go_simp; (with_reducible rfl)); rotate_left; (·simp only [Act.put, sA, sZ, sS, i64_w, i32_w]; rfl)
  refine pure_ (i := 18) (N := some 21) (v := ?_) (a' := ?_) (mb 34 524287) rfl rfl (any_of HT_.out (by kernel_rfl)) (fun _ _ _ h => h) (Or.inl ⟨by rfl, ?_⟩) ?_ ?_
  rotate_left; (·intro w'; go_simp; (with_reducible rfl)); rotate_left; (·simp only [Act.put, sA, sZ, sS, i64_w, i32_w]; rfl)
  refine pure_ (i := 19) (N := some 22) (v := undef) (a' := ?_) (mb 34 1048575) rfl rfl (any_of HT_.out (by kernel_rfl)) (fun _ _ _ h => h) (Or.inr ⟨by rfl, rfl⟩) ?_ ?_
  rotate_left
  ·simp only [Act.put, sA, sZ, sS, i64_w, i32_w]
   rfl
  refine pure_ (i := 20) (N := some 23) (v := undef) (a' := ?_) (mb 34 2097151) rfl rfl (any_of HT_.out (by kernel_rfl)) (fun _ _ _ h => h) (Or.inr ⟨by rfl, rfl⟩) ?_ ?_
  rotate_left
  ·simp only [Act.put, sA, sZ, sS, i64_w, i32_w]
   rfl
  refine pure_ (i := 21) (N := some 24) (v := undef) (a' := ?_) (mb 34 4194303) rfl rfl (any_of HT_.out (by kernel_rfl)) (fun _ _ _ h => h) (Or.inr ⟨by rfl, rfl⟩) ?_ ?_
  rotate_left
  ·simp only [Act.put, sA, sZ, sS, i64_w, i32_w]
   rfl
  refine pure_ (i := 22) (N := some 25) (v := ?_) (a' := ?_) (mb 34 8388607) rfl rfl (any_of HT_.out (by kernel_rfl)) (fun _ _ _ h => h) (Or.inl ⟨by rfl, ?_⟩) ?_ ?_
  rotate_left; (·intro w'; go_simp; (with_reducible rfl)); rotate_left; (·simp only [Act.put, sA, sZ, sS, i64_w, i32_w]; rfl)
  refine pure_ (i := 23) (N := some 26) (v := ?_) (a' := ?_) (mb 34 16777215) rfl rfl (any_of HT_.out (by kernel_rfl)) (fun _ _ _ h => h) (Or.inl ⟨by rfl, ?_⟩) ?_ ?_
  rotate_left; (·intro w'; go_simp; (with_reducible rfl)); rotate_left; (·simp only [Act.put, sA, sZ, sS, i64_w, i32_w]; rfl)
  refine pure_ (i := 24) (N := some 27) (v := undef) (a' := ?_) (mb 34 33554431) rfl rfl (any_of HT_.out (by kernel_rfl)) (fun _ _ _ h => h) (Or.inr ⟨by rfl, rfl⟩) ?_ ?_
  rotate_left
  ·simp only [Act.put, sA, sZ, sS, i64_w, i32_w]
   rfl
  refine pure_ (i := 25) (N := some 28) (v := undef) (a' := ?_) (mb 34 67108863) rfl rfl (any_of HT_.out (by kernel_rfl)) (fun _ _ _ h => h) (Or.inr ⟨by rfl, rfl⟩) ?_ ?_
  rotate_left
  ·simp only [Act.put, sA, sZ, sS, i64_w, i32_w]
   rfl
  refine pure_ (i := 26) (N := some 29) (v := undef) (a' := ?_) (mb 34 134217727) rfl rfl (any_of HT_.out (by kernel_rfl)) (fun _ _ _ h => h) (Or.inr ⟨by rfl, rfl⟩) ?_ ?_
  rotate_left
  ·simp only [Act.put, sA, sZ, sS, i64_w, i32_w]
   rfl
  refine pure_ (i := 27) (N := some 30) (v := ?_) (a' := ?_) (mb 34 268435455) rfl rfl (any_of HT_.out (by kernel_rfl)) (fun _ _ _ h => h) (Or.inl ⟨by rfl, ?_⟩) ?_ ?_
  rotate_left; (·intro w'; go_simp; (with_reducible rfl)); rotate_left; (·simp only [Act.put, sA, sZ, sS, i64_w, i32_w]; rfl)
  refine pure_ (i := 28) (N := some 31) (v := ?_) (a' := ?_) (mb 34 536870911) rfl rfl (any_of HT_.out (by kernel_rfl)) (fun _ _ _ h => h) (Or.inl ⟨by rfl, ?_⟩) ?_ ?_
  rotate_left; (·intro w'; go_simp; (with_reducible rfl)); rotate_left; (·simp only [Act.put, sA, sZ, sS, i64_w, i32_w]; rfl)
  refine pure_ (i := 29) (N := some 32) (v := undef) (a' := ?_) (mb 34 1073741823) rfl rfl (any_of HT_.out (by kernel_rfl)) (fun _ _ _ h => h) (Or.inr ⟨by rfl, rfl⟩) ?_ ?_
  rotate_left
  ·simp only [Act.put, sA, sZ, sS, i64_w, i32_w]
   rfl
  refine pure_ (i := 30) (N := some 33) (v := undef) (a' := ?_) (mb 34 2147483647) rfl rfl (any_of HT_.out (by kernel_rfl)) (fun _ _ _ h => h) (Or.inr ⟨by rfl, rfl⟩) ?_ ?_
  rotate_left
  ·simp only [Act.put, sA, sZ, sS, i64_w, i32_w]
   rfl
  refine pure_ (i := 31) (N := some 34) (v := undef) (a' := ?_) (mb 34 4294967295) rfl rfl (any_of HT_.out (by kernel_rfl)) (fun _ _ _ h => h) (Or.inr ⟨by rfl, rfl⟩) ?_ ?_
  rotate_left
  ·simp only [Act.put, sA, sZ, sS, i64_w, i32_w]
   rfl
  refine pure_ (i := 32) (N := some 35) (v := ?_) (a' := ?_) (mb 34 8589934591) rfl rfl (any_of HT_.out (by kernel_rfl)) (fun _ _ _ h => h) (Or.inl ⟨by rfl, ?_⟩) ?_ ?_
  rotate_left; (·intro w'; go_simp; (with_reducible rfl)); rotate_left; (·simp only [Act.put, sA, sZ, sS, i64_w, i32_w]; rfl)
  refine pure_ (i := 33) (N := some 2) (v := ?_) (a' := ?_) (mb 34 17179869183) rfl rfl (any_of HT_.out (by kernel_rfl)) (fun _ _ _ h => h) (Or.inl ⟨by rfl, ?_⟩) ?_ ?_
  rotate_left; (·intro w'; go_simp; (with_reducible rfl)); rotate_left; (·simp only [Act.put, sA, sZ, sS, i64_w, i32_w]; rfl)
  refine done_ (done_of HT_.out (by kernel_rfl)) ?_
  try go_wp2
  go_ret
  exact ⟨by first | rfl | (simp [errW_none, errW_some] <;> rfl) | (simp [*, errW_none, errW_some] <;> rfl), by repeat (first | (with_reducible first | exact HB.out | apply Be | apply Bc | apply Bd | refine below_set ?_ GE106.out) | exact HB.out)⟩
 replace c4 := Bool.eq_false_iff.mpr c4
 subst c4
 have H1 : (some false) = some r := by rw [if_neg (show ¬ (false = true) by decide)] at H; exact H
 clear H
 have H := H1
 clear H1
 obtain rfl := Option.some.inj H
 go_enter Tryd.func18, Tryd.ntmps18
 try go_wp2_with (first | ((with_reducible refine gate_dst (N := 1) rfl ?_); refine box_event ?hg (N := 1) ?hd (cs := #[.int .i64 a0_0, .int .i64 a0_1, .int .i64 a0_2, .int .i64 a0_3, .int .i64 a0_4, .int .i64 a0_5, .int .i64 a0_6]) (t := 24) ?hr ?_; (case hd => rfl); (case hg => rfl); (case hr => first | (go_simp; done) | (go_simp; rfl)); intro gb106 hg w26 hbox hb; have n0_ := Aside0.mk (below_step (by repeat (first | (with_reducible first | exact HB.out | apply Be | apply Bc | apply Bd) | exact HB.out)) hb); have n1_ := Aside0.mk (hbox); have n2_ := Aside0.mk ((by rw [hg]; exact (below_size (by repeat (first | (with_reducible first | exact HB.out | apply Be | apply Bc | apply Bd) | exact HB.out))) : w.heap.size ≤ gb106)); have n3_ := Aside0.mk ((by rw [hg]; exact (below_size (by repeat (first | (with_reducible first | exact HB.out | apply Be | apply Bc | apply Bd) | exact HB.out))) : w.heap.size ≤ gb106)); clear HB; have HB := n0_; have BK106 := n1_; have GW106 := n2_; have GE106 := n3_; clear n0_ n1_ n2_ n3_; clear hb hbox hg))
 have n0_ := Aside0.mk (Bh BK106.out)
 have n1_ := Aside0.mk (Bd HB.out)
 clear BK106
 clear HB
 have BK106 := n0_
 have HB := n1_
 clear n0_ n1_
 refine start_ (n := 34) (S := fun w' => w'.cell? ⟨gb106, 0, none⟩ = some (.int .i64 a0_0) ∧ w'.cell? ⟨gb106, 1, none⟩ = some (.int .i64 a0_1) ∧ w'.cell? ⟨gb106, 2, none⟩ = some (.int .i64 a0_2) ∧ w'.cell? ⟨gb106, 3, none⟩ = some (.int .i64 a0_3) ∧ w'.cell? ⟨gb106, 4, none⟩ = some (.int .i64 a0_4) ∧ w'.cell? ⟨gb106, 5, none⟩ = some (.int .i64 a0_5) ∧ w'.cell? ⟨gb106, 6, none⟩ = some (.int .i64 a0_6)) (ds := []) #[X,X,X,X,X,X,X,X,X,X,X,X,X,X,X,X,X,X,X,X,X,X,X,X,X,X,X,X,X,X,X,X,X,X] (by kernel_rfl) rfl rfl ⟨(Ba BK106.out 0).trans rfl, (Ba BK106.out 1).trans rfl, (Ba BK106.out 2).trans rfl, (Ba BK106.out 3).trans rfl, (Ba BK106.out 4).trans rfl, (Ba BK106.out 5).trans rfl, (Ba BK106.out 6).trans rfl⟩ (fun hHeld => ?_); refine with_tabW impl_DateValid.tab1 impl_DateValid.bits1 (fun HT_ HW_ => ?_)
 generalize w26.drew = w27 at BK106 HB hHeld ⊢
 refine pure_ (i := 0) (N := some 3) (v := ?_) (a' := ?_) (mb 34 1) rfl rfl (any_of HT_.out (by kernel_rfl)) (fun _ _ _ h => h) (Or.inl ⟨by rfl, ?_⟩) ?_ ?_
 rotate_left; (·intro w'; go_simp; (with_reducible rfl)); rotate_left; (·simp only [Act.put, sA, sZ, sS, i64_w, i32_w]; rfl)
 refine pure_ (i := 2) (N := some 5) (v := ?_) (a' := ?_) (mb 34 5) rfl rfl (any_of HT_.out (by kernel_rfl)) (fun _ _ _ h => h) (Or.inl ⟨by rfl, ?_⟩) ?_ ?_
 rotate_left; (·intro w'; go_simp; (with_reducible rfl)); rotate_left; (·simp only [Act.put, sA, sZ, sS, i64_w, i32_w]; rfl)
 refine pure_ (i := 4) (N := some 7) (v := ?_) (a' := ?_) (mb 34 21) rfl rfl (any_of HT_.out (by kernel_rfl)) (fun _ _ _ h => h) (Or.inl ⟨by rfl, ?_⟩) ?_ ?_
 rotate_left; (·intro w'; go_simp; (with_reducible rfl)); rotate_left; (·simp only [Act.put, sA, sZ, sS, i64_w, i32_w]; rfl)
 refine take_ (i := 1) (N := some 4) (v := ?_) (a' := ?_) (mb 34 23) rfl rfl (take_ofW HT_.out HW_.out (by kernel_rfl)) (fun _ _ _ h => h) (Or.inl ⟨by rfl, ?_⟩) hHeld ?_ ?_
 rotate_left; (·rintro w' ⟨s0, s1, s2, s3, s4, s5, s6⟩; go_simp; (with_reducible rfl)); rotate_left; (·simp only [Act.put, sA, sZ, sS, i64_w, i32_w]; rfl)
 refine take_ (i := 3) (N := some 6) (v := ?_) (a' := ?_) (mb 34 31) rfl rfl (take_ofW HT_.out HW_.out (by kernel_rfl)) (fun _ _ _ h => h) (Or.inl ⟨by rfl, ?_⟩) hHeld ?_ ?_
 rotate_left; (·rintro w' ⟨s0, s1, s2, s3, s4, s5, s6⟩; go_simp; (with_reducible rfl)); rotate_left; (·simp only [Act.put, sA, sZ, sS, i64_w, i32_w]; rfl)
 refine take_ (i := 5) (N := some 8) (v := ?_) (a' := ?_) (mb 34 63) rfl rfl (take_ofW HT_.out HW_.out (by kernel_rfl)) (fun _ _ _ h => h) (Or.inl ⟨by rfl, ?_⟩) hHeld ?_ ?_
 rotate_left; (·rintro w' ⟨s0, s1, s2, s3, s4, s5, s6⟩; go_simp; (with_reducible rfl)); rotate_left; (·simp only [Act.put, sA, sZ, sS, i64_w, i32_w]; rfl)
 refine one_ (i := 6) (N := some 9) (mb 34 127) rfl rfl (one_of HT_.out (by kernel_rfl)) (by decide) (fun K hK => ?_)
 refine goes_ Tryd.func49 (by kernel_rfl) rfl #[.int .i64 a0_0, .int .i64 a0_1] (by rfl) rfl rfl (by (try simp only [List.map_toArray, List.map_cons, List.map_nil]); first | done | rfl | (simp only [List.length_drop, List.length_take]; rfl)) ?_
 with_reducible refine (impl_DaysOf.calls k a0_0 a0_1 t107 _ A2.out).mono ?_
 rintro e w' ⟨rfl, ⟨nd, rfl⟩⟩
 refine ⟨_, rfl, ?_⟩
 refine hK.out _ _ ⟨(Ba BK106.out 0).trans rfl, (Ba BK106.out 1).trans rfl, (Ba BK106.out 2).trans rfl, (Ba BK106.out 3).trans rfl, (Ba BK106.out 4).trans rfl, (Ba BK106.out 5).trans rfl, (Ba BK106.out 6).trans rfl⟩ (fun hHeld => ?_)
 clear hK K
 refine norm_ (a' := ?_) ?_ ?_
 rotate_left
 ·show Act.put _ (some 9) _ = _
  simp only [Act.put, sA, sZ, sS, i64_w, i32_w]
  rfl
 refine one_ (i := 7) (N := some 10) (mb 34 255) rfl rfl (one_of HT_.out (by kernel_rfl)) (by decide) (fun K hK => ?_)
 refine goes_ Tryd.func48 (by kernel_rfl) rfl #[.int .i64 a0_2, .int .i64 1, .int .i64 t107] (by rfl) rfl rfl (by (try simp only [List.map_toArray, List.map_cons, List.map_nil]); first | done | rfl | (simp only [List.length_drop, List.length_take]; rfl)) ?_
 with_reducible refine (impl_between.calls a0_2 1 t107 false _ A3.out).mono ?_
 rintro e w' ⟨rfl, ⟨nd, rfl⟩⟩
 refine ⟨_, rfl, ?_⟩
 refine hK.out _ _ ⟨(Ba BK106.out 0).trans rfl, (Ba BK106.out 1).trans rfl, (Ba BK106.out 2).trans rfl, (Ba BK106.out 3).trans rfl, (Ba BK106.out 4).trans rfl, (Ba BK106.out 5).trans rfl, (Ba BK106.out 6).trans rfl⟩ (fun hHeld => ?_)
 clear hK K
 refine norm_ (a' := ?_) ?_ ?_
 rotate_left
 ·show Act.put _ (some 10) _ = _
  simp only [Act.put, sA, sZ, sS, i64_w, i32_w]
  rfl
 refine pure_ (i := 8) (N := some 11) (v := ?_) (a' := ?_) (mb 34 511) rfl rfl (any_of HT_.out (by kernel_rfl)) (fun _ _ _ h => h) (Or.inl ⟨by rfl, ?_⟩) ?_ ?_
 rotate_left; (·intro w'; go_simp; (with_reducible rfl)); rotate_left; (·simp only [Act.put, sA, sZ, sS, i64_w, i32_w]; rfl)
 refine pure_ (i := 9) (N := some 12) (v := undef) (a' := ?_) (mb 34 1023) rfl rfl (any_of HT_.out (by kernel_rfl)) (fun _ _ _ h => h) (Or.inr ⟨by rfl, rfl⟩) ?_ ?_
 rotate_left
 ·simp only [Act.put, sA, sZ, sS, i64_w, i32_w]
  rfl
 refine pure_ (i := 10) (N := some 13) (v := undef) (a' := ?_) (mb 34 2047) rfl rfl (any_of HT_.out (by kernel_rfl)) (fun _ _ _ h => h) (Or.inr ⟨by rfl, rfl⟩) ?_ ?_
 rotate_left
 ·simp only [Act.put, sA, sZ, sS, i64_w, i32_w]
  rfl
 refine pure_ (i := 11) (N := some 14) (v := undef) (a' := ?_) (mb 34 4095) rfl rfl (any_of HT_.out (by kernel_rfl)) (fun _ _ _ h => h) (Or.inr ⟨by rfl, rfl⟩) ?_ ?_
 rotate_left
 ·simp only [Act.put, sA, sZ, sS, i64_w, i32_w]
  rfl
 refine pure_ (i := 12) (N := some 15) (v := ?_) (a' := ?_) (mb 34 8191) rfl rfl (any_of HT_.out (by kernel_rfl)) (fun _ _ _ h => h) (Or.inl ⟨by rfl, ?_⟩) ?_ ?_
 rotate_left; (·intro w'; go_simp; (with_reducible rfl)); rotate_left; (·simp only [Act.put, sA, sZ, sS, i64_w, i32_w]; rfl)
 refine pure_ (i := 13) (N := some 16) (v := ?_) (a' := ?_) (mb 34 16383) rfl rfl (any_of HT_.out (by kernel_rfl)) (fun _ _ _ h => h) (Or.inl ⟨by rfl, ?_⟩) ?_ ?_
 rotate_left; (·intro w'; go_simp; (with_reducible rfl)); rotate_left; (·simp only [Act.put, sA, sZ, sS, i64_w, i32_w]; rfl)
 refine pure_ (i := 14) (N := some 17) (v := undef) (a' := ?_) (mb 34 32767) rfl rfl (any_of HT_.out (by kernel_rfl)) (fun _ _ _ h => h) (Or.inr ⟨by rfl, rfl⟩) ?_ ?_
 rotate_left
 ·simp only [Act.put, sA, sZ, sS, i64_w, i32_w]
  rfl
 refine pure_ (i := 15) (N := some 18) (v := undef) (a' := ?_) (mb 34 65535) rfl rfl (any_of HT_.out (by kernel_rfl)) (fun _ _ _ h => h) (Or.inr ⟨by rfl, rfl⟩) ?_ ?_
 rotate_left
 ·simp only [Act.put, sA, sZ, sS, i64_w, i32_w]
  rfl
 refine pure_ (i := 16) (N := some 19) (v := undef) (a' := ?_) (mb 34 131071) rfl rfl (any_of HT_.out (by kernel_rfl)) (fun _ _ _ h => h) (Or.inr ⟨by rfl, rfl⟩) ?_ ?_
 rotate_left
 ·simp only [Act.put, sA, sZ, sS, i64_w, i32_w]
  rfl
 refine pure_ (i := 17) (N := some 20) (v := ?_) (a' := ?_) (mb 34 262143) rfl rfl (any_of HT_.out (by kernel_rfl)) (fun _ _ _ h => h) (Or.inl ⟨by rfl, ?_⟩) ?_ ?_
 rotate_left; (·intro w'; go_simp; (with_reducible rfl)); rotate_left; (·simp only [Act.put, sA, sZ, sS, i64_w, i32_w]; rfl)
 refine pure_ (i := 18) (N := some 21) (v := ?_) (a' := ?_) (mb 34 524287) rfl rfl (any_of HT_.out (by kernel_rfl)) (fun _ _ _ h => h) (Or.inl ⟨by rfl, ?_⟩) ?_ ?_
 rotate_left; (·intro w'; go_simp; (with_reducible rfl)); rotate_left; (·simp only [Act.put, sA, sZ, sS, i64_w, i32_w]; rfl)
 refine pure_ (i := 19) (N := some 22) (v := undef) (a' := ?_) (mb 34 1048575) rfl rfl (any_of HT_.out (by kernel_rfl)) (fun _ _ _ h => h) (Or.inr ⟨by rfl, rfl⟩) ?_ ?_
 rotate_left
 ·simp only [Act.put, sA, sZ, sS, i64_w, i32_w]
  rfl
 refine pure_ (i := 20) (N := some 23) (v := undef) (a' := ?_) (mb 34 2097151) rfl rfl (any_of HT_.out (by kernel_rfl)) (fun _ _ _ h => h) (Or.inr ⟨by rfl, rfl⟩) ?_ ?_
 rotate_left
 ·simp only [Act.put, sA, sZ, sS, i64_w, i32_w]
  rfl
 refine pure_ (i := 21) (N := some 24) (v := undef) (a' := ?_) (mb 34 4194303) rfl rfl (any_of HT_.out (by kernel_rfl)) (fun _ _ _ h => h) (Or.inr ⟨by rfl, rfl⟩) ?_ ?_
 rotate_left
 ·simp only [Act.put, sA, sZ, sS, i64_w, i32_w]
  rfl
 refine pure_ (i := 22) (N := some 25) (v := ?_) (a' := ?_) (mb 34 8388607) rfl rfl (any_of HT_.out (by kernel_rfl)) (fun _ _ _ h => h) (Or.inl ⟨by rfl, ?_⟩) ?_ ?_
 rotate_left; (·intro w'; go_simp; (with_reducible rfl)); rotate_left; (·simp only [Act.put, sA, sZ, sS, i64_w, i32_w]; rfl)
 refine pure_ (i := 23) (N := some 26) (v := ?_) (a' := ?_) (mb 34 16777215) rfl rfl (any_of HT_.out (by kernel_rfl)) (fun _ _ _ h => h) (Or.inl ⟨by rfl, ?_⟩) ?_ ?_
 rotate_left; (·intro w'; go_simp; (with_reducible rfl)); rotate_left; (·simp only [Act.put, sA, sZ, sS, i64_w, i32_w]; rfl)
 refine pure_ (i := 24) (N := some 27) (v := undef) (a' := ?_) (mb 34 33554431) rfl rfl (any_of HT_.out (by kernel_rfl)) (fun _ _ _ h => h) (Or.inr ⟨by rfl, rfl⟩) ?_ ?_
 rotate_left
 ·simp only [Act.put, sA, sZ, sS, i64_w, i32_w]
  rfl
 refine pure_ (i := 25) (N := some 28) (v := undef) (a' := ?_) (mb 34 67108863) rfl rfl (any_of HT_.out (by kernel_rfl)) (fun _ _ _ h => h) (Or.inr ⟨by rfl, rfl⟩) ?_ ?_
 rotate_left
 ·simp only [Act.put, sA, sZ, sS, i64_w, i32_w]
  rfl
 refine pure_ (i := 26) (N := some 29) (v := undef) (a' := ?_) (mb 34 134217727) rfl rfl (any_of HT_.out (by kernel_rfl)) (fun _ _ _ h => h) (Or.inr ⟨by rfl, rfl⟩) ?_ ?_
 rotate_left
 ·simp only [Act.put, sA, sZ, sS, i64_w, i32_w]
  rfl
 refine pure_ (i := 27) (N := some 30) (v := ?_) (a' := ?_) (mb 34 268435455) rfl rfl (any_of HT_.out (by kernel_rfl)) (fun _ _ _ h => h) (Or.inl ⟨by rfl, ?_⟩) ?_ ?_
 rotate_left; (·intro w'; go_simp; (with_reducible rfl)); rotate_left; (·simp only [Act.put, sA, sZ, sS, i64_w, i32_w]; rfl)
 refine pure_ (i := 28) (N := some 31) (v := ?_) (a' := ?_) (mb 34 536870911) rfl rfl (any_of HT_.out (by kernel_rfl)) (fun _ _ _ h => h) (Or.inl ⟨by rfl, ?_⟩) ?_ ?_
 rotate_left; (·intro w'; go_simp; (with_reducible rfl)); rotate_left; (·simp only [Act.put, sA, sZ, sS, i64_w, i32_w]; rfl)
 refine pure_ (i := 29) (N := some 32) (v := undef) (a' := ?_) (mb 34 1073741823) rfl rfl (any_of HT_.out (by kernel_rfl)) (fun _ _ _ h => h) (Or.inr ⟨by rfl, rfl⟩) ?_ ?_
 rotate_left
 ·simp only [Act.put, sA, sZ, sS, i64_w, i32_w]
  rfl
 refine pure_ (i := 30) (N := some 33) (v := undef) (a' := ?_) (mb 34 2147483647) rfl rfl (any_of HT_.out (by kernel_rfl)) (fun _ _ _ h => h) (Or.inr ⟨by rfl, rfl⟩) ?_ ?_
 rotate_left
 ·simp only [Act.put, sA, sZ, sS, i64_w, i32_w]
  rfl
 refine pure_ (i := 31) (N := some 34) (v := undef) (a' := ?_) (mb 34 4294967295) rfl rfl (any_of HT_.out (by kernel_rfl)) (fun _ _ _ h => h) (Or.inr ⟨by rfl, rfl⟩) ?_ ?_
 rotate_left
 ·simp only [Act.put, sA, sZ, sS, i64_w, i32_w]
  rfl
 refine pure_ (i := 32) (N := some 35) (v := ?_) (a' := ?_) (mb 34 8589934591) rfl rfl (any_of HT_.out (by kernel_rfl)) (fun _ _ _ h => h) (Or.inl ⟨by rfl, ?_⟩) ?_ ?_
 rotate_left; (·intro w'; go_simp; (with_reducible rfl)); rotate_left; (·simp only [Act.put, sA, sZ, sS, i64_w, i32_w]; rfl)
 refine pure_ (i := 33) (N := some 2) (v := ?_) (a' := ?_) (mb 34 17179869183) rfl rfl (any_of HT_.out (by kernel_rfl)) (fun _ _ _ h => h) (Or.inl ⟨by rfl, ?_⟩) ?_ ?_
 rotate_left; (·intro w'; go_simp; (with_reducible rfl)); rotate_left; (·simp only [Act.put, sA, sZ, sS, i64_w, i32_w]; rfl)
 refine done_ (done_of HT_.out (by kernel_rfl)) ?_
 try go_wp2
 go_ret
 exact ⟨by first | rfl | (simp [errW_none, errW_some] <;> rfl) | (simp [*, errW_none, errW_some] <;> rfl), by repeat (first | (with_reducible first | exact HB.out | apply Be | apply Bc | apply Bd | refine below_set ?_ GE106.out) | exact HB.out)⟩

end Go.Proofs.YtafpbechcjcdbaaDoor.PFnExactParseDate
