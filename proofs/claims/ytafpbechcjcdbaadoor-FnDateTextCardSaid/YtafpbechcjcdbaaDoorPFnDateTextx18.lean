-- By a program of this session.
import Derived.Test.YtafpbechcjcdbaaDoorPFnDateTextx0
import Derived.Test.YtafpbechcjcdbaaDoorPFnDateTextx2
import Derived.Test.YtafpbechcjcdbaaDoorPFnDateTextx3
import Derived.Test.YtafpbechcjcdbaaDoorPFnDateTextx10
namespace Go.Proofs.YtafpbechcjcdbaaDoor.PFnDateText
open Go.RowKit Go.Proofs.YtafpbechcjcdbaaDoorW.PrintWords Go.Proofs.YtafpbechcjcdbaaDoorW.PrintLast Go.Proofs.YtafpbechcjcdbaaDoorW.PrintMore
open Go.Proofs.YtafpbechcjcdbaaDoorW.PrintWords renaming pw_below_drewN → Bc, below_drew1 → Bd, below_alloc → Be, below_set → Bs
open Go.Proofs.YtafpbechcjcdbaaDoorW.PrintWords.Aside0 renaming mk → aM
open Option renaming bind_eq_some_iff → bI
open Bool renaming true → Y, false → X
open List renaming setIfInBounds_toArray → sA, set_cons_zero → sZ, set_cons_succ → sS, map_toArray → mT, map_cons → mC, map_nil → mN, length_drop → lD, length_take → lT
attribute [local go_sem] max2_int min2_int max_two min_two max_three min_three max_four min_four
set_option linter.unusedVariables false
set_option linter.unusedSimpArgs false
def spec_l13Rd_of.f (k : Nat) (s0_0 : List Int) (s0_1 : Int) (l1 : List ByteArray) : Option (ByteArray × Int) := (spec_l13Rd_pick.f k s0_0 s0_1 (l1.length : Int)).bind fun bt365 => (if 0 ≤ bt365.1 then (if bt365.1 < (l1.length : Int) then (some (rdOf ByteArray.empty l1 bt365.1, bt365.2)) else (none)) else (none))
theorem spec_l13Rd_of.mono : ∀ a0 a1 a2 k, LeO (spec_l13Rd_of.f k a0 a1 a2) (spec_l13Rd_of.f (k + 1) a0 a1 a2) := by
 intro a0 a1 a2 k
 unfold spec_l13Rd_of.f
 repeat' first
   | (with_reducible exact spec_l13Rd_pick.mono _ _ _ _)
   | (with_reducible exact LeO.refl _)
   | (with_reducible exact LeO.none _)
   | (with_reducible refine LeO.ite ?_ ?_)
   | (with_reducible refine LeO.bind ?_ (fun _ => ?_))
set_option maxHeartbeats 8000000 in
set_option maxRecDepth 100000 in
theorem spec_l13Rd_of.calls (k : Nat) (g : Nat) (s0_0 : List Int) (s0_1 : Int) (A1 : Option Addr) (c1 : Nat) (l1 : List ByteArray) (r1 : ByteArray) (r2 : Int) (w0 w : World) (hI : IsS87 w0 w g s0_0 s0_1) (hB : Below w0.heap.size w0 w) (hr1 : Kd.C Kd.string w A1 l1.length l1) (hc1 : l1.length ≤ c1) (hf1 : ∀ ad, A1 = some ad → 0 < l1.length → ad.block ≠ g) (h : spec_l13Rd_of.f k s0_0 s0_1 l1 = some (r1, r2)) :
  Calls Tryd.prog 56 #[.pointer (some ⟨g, 0, none⟩), .slice A1 l1.length c1] w fun e w' => e = .returned (.string r1) ∧ IsS87 w0 w' g s0_0 r2 ∧ Below w0.heap.size w0 w' ∧ KeepBut w w' g none := by
 have HR1 := aM hr1
 have HC1 := aM hc1
 clear hr1 hc1
 have HI0 := aM hI
 have HK := aM (KeepBut.refl w g none)
 have HL := aM hB.size
 clear hI
 have HW0 := aM hB.size
 have HB := aM hB
 clear hB
 have H : ((spec_l13Rd_pick.f k s0_0 s0_1 (l1.length : Int)).bind fun bt365 => (if 0 ≤ bt365.1 then (if bt365.1 < (l1.length : Int) then (some (rdOf ByteArray.empty l1 bt365.1, bt365.2)) else (none)) else (none))) = some (r1, r2) := h
 clear h
 replace H := bI.mp H
 obtain ⟨⟨t365, t366⟩, A30, H⟩ := H
 (try dsimp only at H)
 have A3 := aM A30
 clear A30
 by_cases c4 : 0 ≤ t365
 rotate_left
 ·rw [if_neg c4] at H
  exact absurd H (by simp)
 rw [if_pos c4] at H
 have c4b0 : decide (0 ≤ t365) = true := decide_eq_true c4
 clear c4
 by_cases c5 : t365 < (l1.length : Int)
 rotate_left
 ·rw [if_neg c5] at H
  exact absurd H (by simp)
 rw [if_pos c5] at H
 have c5b0 : decide (t365 < (l1.length : Int)) = true := decide_eq_true c5
 clear c5
 simp only [Option.some.injEq, Prod.mk.injEq] at H
 obtain ⟨rfl, rfl⟩ := H
 go_enter Tryd.func56, Tryd.ntmps56
 go_wp2_with (first | ((with_reducible refine gate_callee (f := 55) rfl ?_); refine goesL_ (some 9) rfl rfl Tryd.func55 (by kernel_rfl) rfl #[.pointer (some ⟨g, 0, none⟩), .int .i64 (l1.length : Int)] rfl (by (try simp only [mT, mC, mN]) <;> rfl) ?_; (with_reducible refine (spec_l13Rd_pick.calls k g s0_0 s0_1 (l1.length : Int) t365 t366 w0 _ ?side1 ?side2 A3.out).mono ?_); (case side1 => repeat (first | (with_reducible first | exact HI0.out | apply IsS87.alloc | apply IsS87.drewN | apply IsS87.drew | apply IsS87.set_1) | exact HI0.out)); (case side2 => repeat (first | (with_reducible first | exact HB.out | apply Be | apply Bc | apply Bd | refine Bs ?_ (IsS87.ge HI0.out)) | exact HB.out)); rintro e w6 ⟨rfl, hi, hb, hk⟩; refine ⟨_, rfl, ?_⟩; have n0_ := aM (KeepBut.trans (by repeat (first | (with_reducible first | exact HK.out | apply KeepBut.set_ | apply keep_drewN | apply keep_drew | apply keep_alloc) | exact HK.out)) hk (.inl rfl)); have n1_ := aM (hb); have n2_ := aM (hi); clear HK; clear HB; clear HI0; have HK := n0_; have HB := n1_; have HI0 := n2_; clear n0_ n1_ n2_; (try clear hb); (try clear hb2); (try clear hk); (try clear hi); have p367 : 0 ≤ (t365 : Int) := of_decide_eq_true (by first | (with_reducible assumption) | assumption); have q367 : t365 < (l1.length : Int) := of_decide_eq_true (by first | (with_reducible assumption) | assumption); obtain ⟨ad367, e367, hx367_0⟩ := Kd.at_string HR1.out t365 p367 q367; cases e367; replace hx367_0 := keep_cell HK.out hx367_0 (by first | (rw [add_block]; exact hf1 _ rfl (by omega)) | exact hf1 _ rfl (by omega) | exact hf1 ad367 rfl (by omega)); replace p367 := eq_true p367; replace q367 := eq_true q367))
 go_ret
 exact ⟨by first | rfl | (simp [errW_none, errW_some] <;> rfl) | (simp [*, errW_none, errW_some] <;> rfl), by repeat (first | (with_reducible first | exact HI0.out | apply IsS87.alloc | apply IsS87.drewN | apply IsS87.drew | apply IsS87.set_1) | exact HI0.out), by repeat (first | (with_reducible first | exact HB.out | apply Be | apply Bc | apply Bd | refine Bs ?_ (IsS87.ge HI0.out)) | exact HB.out), by repeat (first | (with_reducible first | exact HK.out | apply KeepBut.set_ | apply keep_drewN | apply keep_drew | apply keep_alloc) | exact HK.out)⟩
def spec_l1Bend.j0 : Nat → ByteArray → List ByteArray → Bool → List Int → Int → Option (ByteArray × Int)
 | 0, _, _, _, _, _ => none
 | k + 1, x1, x2, x15, x1000, x1001 => if x15 = true then (some (x1, x1001)) else ((spec_l13Rd_pick.f k x1000 x1001 (x1.size : Int)).bind fun bt370 => (if 0 ≤ bt370.1 then (if bt370.1 ≤ (x1.size : Int) then ((spec_l13Rd_of.f k x1000 bt370.2 x2).bind fun bt372 => (if (x1.extract 0 (bt370.1 : Int).toNat).size + bt372.1.size ≤ 9223372036854775807 then ((spec_l13Rd_pick.f k x1000 bt372.2 2).bind fun bt374 => (if 0 ≤ (wrap64 (bt370.1 + bt374.1)) then (if (wrap64 (bt370.1 + bt374.1)) ≤ (x1.size : Int) then (if ((x1.extract 0 (bt370.1 : Int).toNat) ++ bt372.1).size + (x1.extract ((wrap64 (bt370.1 + bt374.1)) : Int).toNat x1.size).size ≤ 9223372036854775807 then (some (((x1.extract 0 (bt370.1 : Int).toNat) ++ bt372.1) ++ (x1.extract ((wrap64 (bt370.1 + bt374.1)) : Int).toNat x1.size), bt374.2)) else (none)) else (none)) else (none))) else (none))) else (none)) else (none)))
def spec_l1Bend.f (k : Nat) (s0_0 : List Int) (s0_1 : Int) (a1 : ByteArray) (l2 : List ByteArray) : Option (ByteArray × Int) := if (a1.size : Int) = 0 then (spec_l1Bend.j0 k a1 l2 true s0_0 s0_1) else ((spec_l13Rd_pick.f k s0_0 s0_1 2).bind fun bt368 => (spec_l1Bend.j0 k a1 l2 (bt368.1 == 0) s0_0 bt368.2))
theorem spec_l1Bend.mono_l : ∀ k, (∀ y0 y1 y2 y3 y4, LeO (spec_l1Bend.j0 k y0 y1 y2 y3 y4) (spec_l1Bend.j0 (k + 1) y0 y1 y2 y3 y4))
 | 0 => fun _ _ _ _ _ r h => by simp [spec_l1Bend.j0] at h
 | k + 1 => by
  have ih0 := spec_l1Bend.mono_l k
  intro y0 y1 y2 y3 y4
  unfold spec_l1Bend.j0
  repeat' first
  | (with_reducible exact ih0 _ _ _ _ _)
  | (with_reducible exact spec_l13Rd_of.mono _ _ _ _)
  | (with_reducible exact spec_l13Rd_pick.mono _ _ _ _)
  | (with_reducible exact LeO.refl _)
  | (with_reducible exact LeO.none _)
  | (with_reducible refine LeO.ite ?_ ?_)
  | (with_reducible refine LeO.bind ?_ (fun _ => ?_))
theorem spec_l1Bend.mono : ∀ a0 a1 a2 a3 k, LeO (spec_l1Bend.f k a0 a1 a2 a3) (spec_l1Bend.f (k + 1) a0 a1 a2 a3) := by
 intro a0 a1 a2 a3 k
 have ih0 := spec_l1Bend.mono_l k
 unfold spec_l1Bend.f
 repeat' first
   | (with_reducible exact ih0 _ _ _ _ _)
   | (with_reducible exact spec_l13Rd_of.mono _ _ _ _)
   | (with_reducible exact spec_l13Rd_pick.mono _ _ _ _)
   | (with_reducible exact LeO.refl _)
   | (with_reducible exact LeO.none _)
   | (with_reducible refine LeO.ite ?_ ?_)
   | (with_reducible refine LeO.bind ?_ (fun _ => ?_))
def spec_l1Bend.T4 : Bool × List (List Nat × List Nat) := (true, [([], []), ([], []), ([0, 1], [0, 1]), ([], []), ([], []), ([3, 4], [3, 4]), ([2, 5], [2, 5]), ([], []), ([], []), ([], []), ([9, 5], [9]), ([8, 10], [8, 10]), ([7, 11], [7, 11]), ([6, 12], [6, 12]), ([13, 10, 0, 1, 2, 3, 4, 5, 6, 7, 8, 9, 10, 11, 12, 13], [13])])
def spec_l1Bend.B4 : List Nat := [0, 0, 3, 0, 0, 24, 63, 0, 0, 0, 568, 1848, 4024, 8191, 16383]
theorem spec_l1Bend.tab4 : rtab .any (opsOf Tryd.f57 4) = spec_l1Bend.T4 := by kernel_rfl
theorem spec_l1Bend.bits4 : waitsOk spec_l1Bend.T4.2 spec_l1Bend.B4 = true := by kernel_rfl
set_option maxHeartbeats 8000000 in
set_option maxRecDepth 100000 in
theorem spec_l1Bend.calls (k : Nat) (g : Nat) (s0_0 : List Int) (s0_1 : Int) (a1 : ByteArray) (A2 : Option Addr) (c2 : Nat) (l2 : List ByteArray) (r1 : ByteArray) (r2 : Int) (w0 w : World) (hI : IsS87 w0 w g s0_0 s0_1) (hB : Below w0.heap.size w0 w) (hr2 : Kd.C Kd.string w A2 l2.length l2) (hc2 : l2.length ≤ c2) (hf2 : ∀ ad, A2 = some ad → 0 < l2.length → ad.block ≠ g) (h : spec_l1Bend.f k s0_0 s0_1 a1 l2 = some (r1, r2)) :
  Calls Tryd.prog 57 #[.pointer (some ⟨g, 0, none⟩), .string a1, .slice A2 l2.length c2] w fun e w' => e = .returned (.string r1) ∧ IsS87 w0 w' g s0_0 r2 ∧ Below w0.heap.size w0 w' ∧ KeepBut w w' g none := by
 have HR2 := aM hr2
 have HC2 := aM hc2
 clear hr2 hc2
 have HI0 := aM hI
 have HK := aM (KeepBut.refl w g none)
 have HL := aM hB.size
 clear hI
 have HW0 := aM hB.size
 have HB := aM hB
 clear hB
 have H : (if (a1.size : Int) = 0 then (spec_l1Bend.j0 k a1 l2 true s0_0 s0_1) else ((spec_l13Rd_pick.f k s0_0 s0_1 2).bind fun bt368 => (spec_l1Bend.j0 k a1 l2 (bt368.1 == 0) s0_0 bt368.2))) = some (r1, r2) := h
 clear h
 have HC4 := aM H
 clear H
 go_enter Tryd.func57, Tryd.ntmps57
 go_upto_region 1 with (fail)
 go_cut [15] (fun v15 wc => ∃ (kq : Nat) (x15_3 : Bool) (x1001_3 : Int), v15 = .bool x15_3 ∧ Aside0 (spec_l1Bend.j0 kq a1 l2 x15_3 s0_0 x1001_3 = some (r1, r2)) ∧ Aside0 (kq ≤ k) ∧ Aside0 (IsS87 w0 wc g s0_0 x1001_3) ∧ Aside0 (KeepBut w wc g none) ∧ Aside0 (Below w0.heap.size w0 wc))
 case first =>
  have H := HC4.out
  clear HC4
  by_cases c5 : (a1.size : Int) = 0
  ·rw [if_pos c5] at H
   have c5b0 : ((a1.size : Int) == 0) = true := beq_iff_eq.mpr c5
   have c5b1 : ((a1.size : Int) != 0) = false := bne_eq_false_iff_eq.mpr c5
   clear c5
   (first | rw [c5b0] | (simp only [i64_w, i32_w]; rw [c5b0]) | skip)
   have H' := aM H
   clear H
   go_wp2
   go_meet
   case rel => exact ⟨_, (true), (s0_1), (by first | rfl | (simp; done) | (simp [*]; done)), H', ⟨by first | omega | exact Nat.le_refl _⟩, ⟨by repeat (first | (with_reducible first | exact HI0.out | apply IsS87.alloc | apply IsS87.drewN | apply IsS87.drew | apply IsS87.set_1) | exact HI0.out)⟩, ⟨by repeat (first | (with_reducible first | exact HK.out | apply KeepBut.set_ | apply keep_drewN | apply keep_drew | apply keep_alloc) | exact HK.out)⟩, ⟨by repeat (first | (with_reducible first | exact HB.out | apply Be | apply Bc | apply Bd | refine Bs ?_ (IsS87.ge HI0.out)) | exact HB.out)⟩⟩
  rw [if_neg c5] at H
  have c5b0 : ((a1.size : Int) == 0) = false := beq_eq_false_iff_ne.mpr c5
  have c5b1 : ((a1.size : Int) != 0) = true := bne_iff_ne.mpr c5
  (first | rw [c5b0] | (simp only [i64_w, i32_w]; rw [c5b0]) | skip)
  replace H := bI.mp H
  obtain ⟨⟨t368, t369⟩, A60, H⟩ := H
  (try dsimp only at H)
  have A6 := aM A60; clear A60
  have H' := aM H
  clear H
  go_wp2_with (first | (go_at_call 55; (with_reducible refine (spec_l13Rd_pick.calls k g s0_0 s0_1 2 t368 t369 w0 _ ?side1 ?side2 A6.out).mono ?_); (case side1 => repeat (first | (with_reducible first | exact HI0.out | apply IsS87.alloc | apply IsS87.drewN | apply IsS87.drew | apply IsS87.set_1) | exact HI0.out)); (case side2 => repeat (first | (with_reducible first | exact HB.out | apply Be | apply Bc | apply Bd | refine Bs ?_ (IsS87.ge HI0.out)) | exact HB.out)); rintro e w7 ⟨rfl, hi, hb, hk⟩; have n0_ := aM (KeepBut.trans (by repeat (first | (with_reducible first | exact HK.out | apply KeepBut.set_ | apply keep_drewN | apply keep_drew | apply keep_alloc) | exact HK.out)) hk (.inl rfl)); have n1_ := aM (hb); have n2_ := aM (hi); clear HK; clear HB; clear HI0; have HK := n0_; have HB := n1_; have HI0 := n2_; clear n0_ n1_ n2_; (try clear hb); (try clear hb2); (try clear hk); (try clear hi)))
  go_meet
  case rel => exact ⟨_, ((t368 == 0)), (t369), (by first | rfl | (simp; done) | (simp [*]; done)), H', ⟨by first | omega | exact Nat.le_refl _⟩, ⟨by repeat (first | (with_reducible first | exact HI0.out | apply IsS87.alloc | apply IsS87.drewN | apply IsS87.drew | apply IsS87.set_1) | exact HI0.out)⟩, ⟨by repeat (first | (with_reducible first | exact HK.out | apply KeepBut.set_ | apply keep_drewN | apply keep_drew | apply keep_alloc) | exact HK.out)⟩, ⟨by repeat (first | (with_reducible first | exact HB.out | apply Be | apply Bc | apply Bd | refine Bs ?_ (IsS87.ge HI0.out)) | exact HB.out)⟩⟩
 case rest =>
  clear HC4
  try clear c2
  try clear p2
  try clear c5
  try clear c5b0
  try clear c5b1
  obtain ⟨kq, x15_3, x1001_3, rfl, HA, HJ3, HI0, HK, HB⟩ := hcut
  cases kq with
  | zero => exact absurd HA.out (by simp [spec_l1Bend.j0])
  | succ kj3 =>
   have H := HA.out; clear HA
   simp only [spec_l1Bend.j0] at H
   by_cases c8 : x15_3 = true
   ·subst c8
    rw [if_pos rfl] at H
    simp only [Option.some.injEq, Prod.mk.injEq] at H
    obtain ⟨rfl, rfl⟩ := H
    go_wp2
    go_ret
    exact ⟨by first | rfl | (simp [errW_none, errW_some] <;> rfl) | (simp [*, errW_none, errW_some] <;> rfl), by repeat (first | (with_reducible first | exact HI0.out | apply IsS87.alloc | apply IsS87.drewN | apply IsS87.drew | apply IsS87.set_1) | exact HI0.out), by repeat (first | (with_reducible first | exact HB.out | apply Be | apply Bc | apply Bd | refine Bs ?_ (IsS87.ge HI0.out)) | exact HB.out), by repeat (first | (with_reducible first | exact HK.out | apply KeepBut.set_ | apply keep_drewN | apply keep_drew | apply keep_alloc) | exact HK.out)⟩
   replace c8 := Bool.eq_false_iff.mpr c8
   subst c8
   rw [if_neg (show ¬ (false = true) by decide)] at H; replace H := bI.mp H
   obtain ⟨⟨t370, t371⟩, A90, H⟩ := H
   (try dsimp only at H)
   have A9 := aM A90; clear A90
   by_cases c10 : 0 ≤ t370
   rotate_left
   ·rw [if_neg c10] at H
    exact absurd H (by simp)
   rw [if_pos c10] at H
   have c10b0 := eq_true c10
   have c10b1 : decide (0 ≤ t370) = true := decide_eq_true c10
   clear c10
   by_cases c11 : t370 ≤ (a1.size : Int)
   rotate_left
   ·rw [if_neg c11] at H
    exact absurd H (by simp)
   rw [if_pos c11] at H
   have c11b0 := eq_true c11
   have c11b1 : decide (t370 ≤ (a1.size : Int)) = true := decide_eq_true c11
   clear c11; replace H := bI.mp H
   obtain ⟨⟨t372, t373⟩, A120, H⟩ := H
   (try dsimp only at H)
   have A12 := aM A120; clear A120
   by_cases c13 : (a1.extract 0 (t370 : Int).toNat).size + t372.size ≤ 9223372036854775807
   rotate_left
   ·rw [if_neg c13] at H
    exact absurd H (by simp)
   rw [if_pos c13] at H
   have c13b0 := eq_true c13
   have c13b1 : decide ((a1.extract 0 (t370 : Int).toNat).size + t372.size ≤ 9223372036854775807) = true := decide_eq_true c13
   (try (have c13b1z := c13b1; simp only [ByteArray.size_extract] at c13b1z))
   try have c13b2 : (9223372036854775807 < (a1.extract 0 (t370 : Int).toNat).size + t372.size) = False := eq_false (Nat.not_lt.2 c13)
   replace H := bI.mp H
   obtain ⟨⟨t374, t375⟩, A140, H⟩ := H
   (try dsimp only at H)
   have A14 := aM A140; clear A140
   obtain ⟨ji15, hji15⟩ : ∃ j_ : Int, (wrap64 (t370 + t374)) = j_ := ⟨_, rfl⟩
   replace H : (if 0 ≤ (ji15) then (if (ji15) ≤ (a1.size : Int) then (if ((a1.extract 0 (t370 : Int).toNat) ++ t372).size + (a1.extract ((ji15) : Int).toNat a1.size).size ≤ 9223372036854775807 then (some (((a1.extract 0 (t370 : Int).toNat) ++ t372) ++ (a1.extract ((ji15) : Int).toNat a1.size), t375)) else (none)) else (none)) else (none)) = some (r1, r2) := by first | (rw [hji15] at H; exact H) | (simp only [hji15] at H ⊢; exact H)
   (try rw [hji15] at A9)
   (try rw [hji15] at A12)
   (try rw [hji15] at A14)
   have hji15w : (IntKind.i64.wrap (t370 + t374)) = ji15 := (i64_w _).trans hji15
   by_cases c16 : 0 ≤ (ji15)
   rotate_left
   ·rw [if_neg c16] at H
    exact absurd H (by simp)
   rw [if_pos c16] at H
   have c16b0 := eq_true c16
   have c16b1 : decide (0 ≤ (ji15)) = true := decide_eq_true c16
   clear c16
   by_cases c17 : (ji15) ≤ (a1.size : Int)
   rotate_left
   ·rw [if_neg c17] at H
    exact absurd H (by simp)
   rw [if_pos c17] at H
   have c17b0 := eq_true c17
   have c17b1 : decide ((ji15) ≤ (a1.size : Int)) = true := decide_eq_true c17
   clear c17
   by_cases c18 : ((a1.extract 0 (t370 : Int).toNat) ++ t372).size + (a1.extract ((ji15) : Int).toNat a1.size).size ≤ 9223372036854775807
   rotate_left
   ·rw [if_neg c18] at H
    exact absurd H (by simp)
   rw [if_pos c18] at H
   have c18b0 := eq_true c18
   have c18b1 : decide (((a1.extract 0 (t370 : Int).toNat) ++ t372).size + (a1.extract ((ji15) : Int).toNat a1.size).size ≤ 9223372036854775807) = true := decide_eq_true c18
   (try (have c18b1z := c18b1; simp only [ByteArray.size_extract] at c18b1z))
   try have c18b2 : (9223372036854775807 < ((a1.extract 0 (t370 : Int).toNat) ++ t372).size + (a1.extract ((ji15) : Int).toNat a1.size).size) = False := eq_false (Nat.not_lt.2 c18)
   (try (have c18n := c18; simp only [ByteArray.size_append] at c18n))
   simp only [Option.some.injEq, Prod.mk.injEq] at H
   obtain ⟨rfl, rfl⟩ := H
   try go_wp2_with (first | ((with_reducible refine gate_callee (f := 55) rfl ?_); refine goesL_ (some 20) rfl rfl Tryd.func55 (by kernel_rfl) rfl #[.pointer (some ⟨g, 0, none⟩), .int .i64 (a1.size : Int)] rfl (by (try simp only [mT, mC, mN]) <;> rfl) ?_; (with_reducible refine (spec_l13Rd_pick.calls kj3 g s0_0 x1001_3 (a1.size : Int) t370 t371 w0 _ ?side1 ?side2 A9.out).mono ?_); (case side1 => repeat (first | (with_reducible first | exact HI0.out | apply IsS87.alloc | apply IsS87.drewN | apply IsS87.drew | apply IsS87.set_1) | exact HI0.out)); (case side2 => repeat (first | (with_reducible first | exact HB.out | apply Be | apply Bc | apply Bd | refine Bs ?_ (IsS87.ge HI0.out)) | exact HB.out)); rintro e w19 ⟨rfl, hi, hb, hk⟩; refine ⟨_, rfl, ?_⟩; have n0_ := aM (KeepBut.trans (by repeat (first | (with_reducible first | exact HK.out | apply KeepBut.set_ | apply keep_drewN | apply keep_drew | apply keep_alloc) | exact HK.out)) hk (.inl rfl)); have n1_ := aM (hb); have n2_ := aM (hi); clear HK; clear HB; clear HI0; have HK := n0_; have HB := n1_; have HI0 := n2_; clear n0_ n1_ n2_; (try clear hb); (try clear hb2); (try clear hk); (try clear hi)))
   have n0_ := aM (IsS87.drew HI0.out); have n1_ := aM (keep_drew HK.out); have n2_ := aM (Bd HB.out); clear HI0; clear HK; clear HB; have HI0 := n0_; have HK := n1_; have HB := n2_; clear n0_ n1_ n2_
   refine start_ (n := 15) (S := fun w' => True) (ds := []) #[X,X,X,X,X,X,X,X,X,X,X,X,X,X,X] (by kernel_rfl) rfl rfl trivial (fun hHeld => ?_); refine with_tabW spec_l1Bend.tab4 spec_l1Bend.bits4 (fun HT_ HW_ => ?_)
   generalize w19.drew = w20 at HI0 HK HB hHeld ⊢
   refine pure_ (i := 0) (N := some 21) (v := ?_) (a' := ?_) (mb 15 1) rfl rfl (any_of HT_.out (by kernel_rfl)) (fun _ _ _ h => h) (Or.inl ⟨by rfl, ?_⟩) ?_ ?_
   rotate_left; (·intro w'; go_simp; (first | with_reducible rfl | (refine if_neg ?_; simp only [decide_eq_true_eq, eq_iff_iff, iff_true, iff_false, ByteArray.size_extract, ByteArray.size_append] at *; omega))); rotate_left; (·simp only [Act.put, sA, sZ, sS, i64_w, i32_w]; rfl)
   refine pure_ (i := 1) (N := some 22) (v := ?_) (a' := ?_) (mb 15 3) rfl rfl (any_of HT_.out (by kernel_rfl)) (fun _ _ _ h => h) (Or.inl ⟨by rfl, ?_⟩) ?_ ?_
   rotate_left; (·intro w'; go_simp; (first | with_reducible rfl | (refine if_neg ?_; simp only [decide_eq_true_eq, eq_iff_iff, iff_true, iff_false, ByteArray.size_extract, ByteArray.size_append] at *; omega))); rotate_left; (·simp only [Act.put, sA, sZ, sS, i64_w, i32_w]; rfl)
   refine pure_ (i := 2) (N := some 23) (v := ?_) (a' := ?_) (mb 15 7) rfl rfl (any_of HT_.out (by kernel_rfl)) (fun _ _ _ h => h) (Or.inl ⟨by rfl, ?_⟩) ?_ ?_
   rotate_left; (·intro w'; go_simp; (first | with_reducible rfl | (refine if_neg ?_; simp only [decide_eq_true_eq, eq_iff_iff, iff_true, iff_false, ByteArray.size_extract, ByteArray.size_append] at *; omega))); rotate_left; (·simp only [Act.put, sA, sZ, sS, i64_w, i32_w]; rfl)
   refine pure_ (i := 3) (N := some 24) (v := ?_) (a' := ?_) (mb 15 15) rfl rfl (any_of HT_.out (by kernel_rfl)) (fun _ _ _ h => h) (Or.inl ⟨by rfl, ?_⟩) ?_ ?_
   rotate_left; (·intro w'; go_simp; (first | with_reducible rfl | (refine if_neg ?_; simp only [decide_eq_true_eq, eq_iff_iff, iff_true, iff_false, ByteArray.size_extract, ByteArray.size_append] at *; omega))); rotate_left; (·simp only [Act.put, sA, sZ, sS, i64_w, i32_w]; rfl)
   refine pure_ (i := 4) (N := some 25) (v := ?_) (a' := ?_) (mb 15 31) rfl rfl (any_of HT_.out (by kernel_rfl)) (fun _ _ _ h => h) (Or.inl ⟨by rfl, ?_⟩) ?_ ?_
   rotate_left; (·intro w'; go_simp; (first | with_reducible rfl | (refine if_neg ?_; simp only [decide_eq_true_eq, eq_iff_iff, iff_true, iff_false, ByteArray.size_extract, ByteArray.size_append] at *; omega))); rotate_left; (·simp only [Act.put, sA, sZ, sS, i64_w, i32_w]; rfl)
   refine pure_ (i := 7) (N := some 28) (v := ?_) (a' := ?_) (mb 15 159) rfl rfl (any_of HT_.out (by kernel_rfl)) (fun _ _ _ h => h) (Or.inl ⟨by rfl, ?_⟩) ?_ ?_
   rotate_left; (·intro w'; go_simp; (first | with_reducible rfl | (refine if_neg ?_; simp only [decide_eq_true_eq, eq_iff_iff, iff_true, iff_false, ByteArray.size_extract, ByteArray.size_append] at *; omega))); rotate_left; (·simp only [Act.put, sA, sZ, sS, i64_w, i32_w]; rfl)
   refine pure_ (i := 8) (N := some 29) (v := ?_) (a' := ?_) (mb 15 415) rfl rfl (any_of HT_.out (by kernel_rfl)) (fun _ _ _ h => h) (Or.inl ⟨by rfl, ?_⟩) ?_ ?_
   rotate_left; (·intro w'; go_simp; (first | with_reducible rfl | (refine if_neg ?_; simp only [decide_eq_true_eq, eq_iff_iff, iff_true, iff_false, ByteArray.size_extract, ByteArray.size_append] at *; omega))); rotate_left; (·simp only [Act.put, sA, sZ, sS, i64_w, i32_w]; rfl)
   refine pure_ (i := 9) (N := some 30) (v := ?_) (a' := ?_) (mb 15 927) rfl rfl (any_of HT_.out (by kernel_rfl)) (fun _ _ _ h => h) (Or.inl ⟨by rfl, ?_⟩) ?_ ?_
   rotate_left; (·intro w'; go_simp; (first | with_reducible rfl | (refine if_neg ?_; simp only [decide_eq_true_eq, eq_iff_iff, iff_true, iff_false, ByteArray.size_extract, ByteArray.size_append] at *; omega))); rotate_left; (·simp only [Act.put, sA, sZ, sS, i64_w, i32_w]; rfl)
   refine one_ (i := 5) (N := some 26) (mb 15 959) rfl rfl (one_of HT_.out (by kernel_rfl)) (by decide) (fun K hK => ?_)
   refine goes_ Tryd.func56 (by kernel_rfl) rfl #[.pointer (some ⟨g, 0, none⟩), .slice A2 l2.length c2] (by rfl) rfl rfl (by (try simp only [mT, mC, mN]) <;> rfl) ?_
   with_reducible refine (spec_l13Rd_of.calls kj3 g s0_0 t371 _ _ l2 t372 t373 w0 _ ?side1 ?side2 ?side3 ?side4 ?side5 A12.out).mono ?_
   (case side1 => repeat (first | (with_reducible first | exact HI0.out | apply IsS87.alloc | apply IsS87.drewN | apply IsS87.drew | apply IsS87.set_1) | exact HI0.out))
   (case side2 => repeat (first | (with_reducible first | exact HB.out | apply Be | apply Bc | apply Bd | refine Bs ?_ (IsS87.ge HI0.out)) | exact HB.out))
   (case side3 => exact Kd.C_keep (⟨#[]⟩ : ByteArray) HR2.out (by repeat (first | (with_reducible first | exact HK.out | apply KeepBut.set_ | apply keep_drewN | apply keep_drew | apply keep_alloc) | exact HK.out)) hf2)
   (case side4 => exact HC2.out)
   (case side5 => exact hf2)
   rintro e w21 ⟨rfl, hi, hb, hk⟩
   refine ⟨_, rfl, ?_⟩
   have n0_ := aM (KeepBut.trans (by repeat (first | (with_reducible first | exact HK.out | apply KeepBut.set_ | apply keep_drewN | apply keep_drew | apply keep_alloc) | exact HK.out)) hk (.inl rfl)); have n1_ := aM (hb); have n2_ := aM (hi); clear HK; clear HB; clear HI0; have HK := n0_; have HB := n1_; have HI0 := n2_; clear n0_ n1_ n2_
   (try clear hb)
   (try clear hb2)
   (try clear hk)
   (try clear hi)
   refine hK.out _ _ trivial (fun hHeld => ?_)
   clear hK K
   refine norm_ (a' := ?_) ?_ ?_
   rotate_left
   ·show Act.put _ (some 26) _ = _
    simp only [Act.put, sA, sZ, sS, i64_w, i32_w]
    rfl
   refine pure_ (i := 6) (N := some 27) (v := ?_) (a' := ?_) (mb 15 1023) rfl rfl (any_of HT_.out (by kernel_rfl)) (fun _ _ _ h => h) (Or.inl ⟨by rfl, ?_⟩) ?_ ?_
   rotate_left; (·intro w'; go_simp; (first | with_reducible rfl | (refine if_neg ?_; simp only [decide_eq_true_eq, eq_iff_iff, iff_true, iff_false, ByteArray.size_extract, ByteArray.size_append] at *; omega))); rotate_left; (·simp only [Act.put, sA, sZ, sS, i64_w, i32_w]; rfl)
   refine one_ (i := 10) (N := some 31) (mb 15 2047) rfl rfl (one_of HT_.out (by kernel_rfl)) (by decide) (fun K hK => ?_)
   refine goes_ Tryd.func55 (by kernel_rfl) rfl #[.pointer (some ⟨g, 0, none⟩), .int .i64 2] (by rfl) rfl rfl (by (try simp only [mT, mC, mN]) <;> rfl) ?_
   with_reducible refine (spec_l13Rd_pick.calls kj3 g s0_0 t373 2 t374 t375 w0 _ ?side1 ?side2 A14.out).mono ?_
   (case side1 => repeat (first | (with_reducible first | exact HI0.out | apply IsS87.alloc | apply IsS87.drewN | apply IsS87.drew | apply IsS87.set_1) | exact HI0.out))
   (case side2 => repeat (first | (with_reducible first | exact HB.out | apply Be | apply Bc | apply Bd | refine Bs ?_ (IsS87.ge HI0.out)) | exact HB.out))
   rintro e w22 ⟨rfl, hi, hb, hk⟩
   refine ⟨_, rfl, ?_⟩
   have n0_ := aM (KeepBut.trans (by repeat (first | (with_reducible first | exact HK.out | apply KeepBut.set_ | apply keep_drewN | apply keep_drew | apply keep_alloc) | exact HK.out)) hk (.inl rfl)); have n1_ := aM (hb); have n2_ := aM (hi); clear HK; clear HB; clear HI0; have HK := n0_; have HB := n1_; have HI0 := n2_; clear n0_ n1_ n2_
   (try clear hb)
   (try clear hb2)
   (try clear hk)
   (try clear hi)
   refine hK.out _ _ trivial (fun hHeld => ?_)
   clear hK K
   refine norm_ (a' := ?_) ?_ ?_
   rotate_left
   ·show Act.put _ (some 31) _ = _
    simp only [Act.put, sA, sZ, sS, i64_w, i32_w]
    rfl
   refine pure_ (i := 11) (N := some 32) (v := ?_) (a' := ?_) (mb 15 4095) rfl rfl (any_of HT_.out (by kernel_rfl)) (fun _ _ _ h => h) (Or.inl ⟨by rfl, ?_⟩) ?_ ?_
   rotate_left; (·intro w'; go_simp; (first | with_reducible rfl | (refine if_neg ?_; simp only [decide_eq_true_eq, eq_iff_iff, iff_true, iff_false, ByteArray.size_extract, ByteArray.size_append] at *; omega))); rotate_left; (·simp only [Act.put, sA, sZ, sS, i64_w, i32_w]; rfl)
   refine pure_ (i := 12) (N := some 33) (v := ?_) (a' := ?_) (mb 15 8191) rfl rfl (any_of HT_.out (by kernel_rfl)) (fun _ _ _ h => h) (Or.inl ⟨by rfl, ?_⟩) ?_ ?_
   rotate_left; (·intro w'; go_simp; (first | with_reducible rfl | (refine if_neg ?_; simp only [decide_eq_true_eq, eq_iff_iff, iff_true, iff_false, ByteArray.size_extract, ByteArray.size_append] at *; omega))); rotate_left; (·simp only [Act.put, sA, sZ, sS, i64_w, i32_w]; rfl)
   refine pure_ (i := 13) (N := some 34) (v := ?_) (a' := ?_) (mb 15 16383) rfl rfl (any_of HT_.out (by kernel_rfl)) (fun _ _ _ h => h) (Or.inl ⟨by rfl, ?_⟩) ?_ ?_
   rotate_left; (·intro w'; go_simp; (first | with_reducible rfl | (refine if_neg ?_; simp only [decide_eq_true_eq, eq_iff_iff, iff_true, iff_false, ByteArray.size_extract, ByteArray.size_append] at *; omega))); rotate_left; (·simp only [Act.put, sA, sZ, sS, i64_w, i32_w]; rfl)
   refine pure_ (i := 14) (N := some 6) (v := ?_) (a' := ?_) (mb 15 32767) rfl rfl (any_of HT_.out (by kernel_rfl)) (fun _ _ _ h => h) (Or.inl ⟨by rfl, ?_⟩) ?_ ?_
   rotate_left; (·intro w'; go_simp; (first | with_reducible rfl | (refine if_neg ?_; simp only [decide_eq_true_eq, eq_iff_iff, iff_true, iff_false, ByteArray.size_extract, ByteArray.size_append] at *; omega))); rotate_left; (·simp only [Act.put, sA, sZ, sS, i64_w, i32_w]; rfl)
   refine done_ (done_of HT_.out (by kernel_rfl)) ?_
   try go_wp2
   go_ret
   exact ⟨by first | with_reducible rfl | (simp only [← hji15]; with_reducible rfl) | rfl | (simp [errW_none, errW_some] <;> rfl) | (simp only [← hji15]; first | rfl | (simp [errW_none, errW_some] <;> rfl)) | (simp [*, errW_none, errW_some] <;> rfl), by repeat (first | (with_reducible first | exact HI0.out | apply IsS87.alloc | apply IsS87.drewN | apply IsS87.drew | apply IsS87.set_1) | exact HI0.out), by repeat (first | (with_reducible first | exact HB.out | apply Be | apply Bc | apply Bd | refine Bs ?_ (IsS87.ge HI0.out)) | exact HB.out), by repeat (first | (with_reducible first | exact HK.out | apply KeepBut.set_ | apply keep_drewN | apply keep_drew | apply keep_alloc) | exact HK.out)⟩
def spec_DrawParseDate.f (k : Nat) (l0 : List Int) : Option (ByteArray) := (spec_l13Open.f l0).bind fun bt376 => ((spec_l13Rd_pick.f k bt376.1 bt376.2 4).bind fun bt379 => (if bt379.1 = 0 then ((spec_l13Rd_of.f k bt376.1 bt379.2 (([(⟨#[53, 32, 106, 97, 110, 32, 50, 48, 50, 54, 32, 48, 55, 58, 48, 56, 32, 71, 77, 84]⟩ : ByteArray), (⟨#[77, 111, 110, 44, 32, 32, 53, 32, 32, 74, 97, 110, 32, 50, 48, 50, 54, 32, 48, 55, 58, 48, 56, 58, 48, 57, 32, 43, 48, 49, 48, 48]⟩ : ByteArray), (⟨#[84, 117, 101, 44, 32, 53, 32, 74, 97, 110, 32, 50, 48, 50, 54, 32, 48, 55, 58, 48, 56, 58, 48, 57, 32, 43, 48, 49, 48, 48]⟩ : ByteArray), (⟨#[48, 53, 32, 74, 97, 110, 32, 50, 48, 50, 54, 32, 48, 55, 58, 48, 56, 58, 48, 57, 32, 85, 84]⟩ : ByteArray), (⟨#[50, 57, 32, 70, 101, 98, 32, 50, 48, 50, 51, 32, 48, 48, 58, 48, 48, 32, 71, 77, 84]⟩ : ByteArray), (⟨#[49, 32, 74, 97, 110, 32, 49, 57, 55, 48, 32, 48, 48, 58, 48, 48, 58, 48, 48, 32, 43, 48, 49, 48, 48]⟩ : ByteArray)] : List ByteArray))).bind fun bt384 => (some bt384.1)) else ((spec_l4Draw.f k bt376.1 bt379.2).bind fun bt386 => ((spec_FormatDate.f k bt386.1 bt386.2.1 bt386.2.2.1 bt386.2.2.2.1 bt386.2.2.2.2.1 bt386.2.2.2.2.2.1 bt386.2.2.2.2.2.2.1).bind fun t394 => ((spec_l1Bend.f k bt376.1 bt386.2.2.2.2.2.2.2 t394 (([(⟨#[]⟩ : ByteArray), (⟨#[32]⟩ : ByteArray), (⟨#[44]⟩ : ByteArray), (⟨#[48]⟩ : ByteArray), (⟨#[58]⟩ : ByteArray), (⟨#[43]⟩ : ByteArray)] : List ByteArray))).bind fun bt398 => (some bt398.1))))))
theorem spec_DrawParseDate.mono : ∀ a0 k, LeO (spec_DrawParseDate.f k a0) (spec_DrawParseDate.f (k + 1) a0) := by
 intro a0 k
 unfold spec_DrawParseDate.f
 repeat' first
   | (with_reducible exact spec_FormatDate.mono _ _ _ _ _ _ _ _)
   | (with_reducible exact spec_l13Rd_of.mono _ _ _ _)
   | (with_reducible exact spec_l13Rd_pick.mono _ _ _ _)
   | (with_reducible exact spec_l1Bend.mono _ _ _ _ _)
   | (with_reducible exact spec_l4Draw.mono _ _ _)
   | (with_reducible exact LeO.refl _)
   | (with_reducible exact LeO.none _)
   | (with_reducible refine LeO.ite ?_ ?_)
   | (with_reducible refine LeO.bind ?_ (fun _ => ?_))
set_option maxHeartbeats 8000000 in
set_option maxRecDepth 100000 in
theorem spec_DrawParseDate.calls (k : Nat) (A0 : Option Addr) (c0 : Nat) (l0 : List Int) (r : ByteArray) (w : World) (hr0 : Kd.C (Kd.int .u8) w A0 l0.length l0) (hc0 : l0.length ≤ c0) (h : spec_DrawParseDate.f k l0 = some r) :
  Calls Tryd.prog 20 #[.slice A0 l0.length c0] w fun e w' => e = .returned (.string r) ∧ Below w.heap.size w w' := by
 have HR0 := aM hr0
 have HC0 := aM hc0
 clear hr0 hc0
 have HB := aM (Below.refl w.heap.size w)
 have H : ((spec_l13Open.f l0).bind fun bt376 => ((spec_l13Rd_pick.f k bt376.1 bt376.2 4).bind fun bt379 => (if bt379.1 = 0 then ((spec_l13Rd_of.f k bt376.1 bt379.2 (([(⟨#[53, 32, 106, 97, 110, 32, 50, 48, 50, 54, 32, 48, 55, 58, 48, 56, 32, 71, 77, 84]⟩ : ByteArray), (⟨#[77, 111, 110, 44, 32, 32, 53, 32, 32, 74, 97, 110, 32, 50, 48, 50, 54, 32, 48, 55, 58, 48, 56, 58, 48, 57, 32, 43, 48, 49, 48, 48]⟩ : ByteArray), (⟨#[84, 117, 101, 44, 32, 53, 32, 74, 97, 110, 32, 50, 48, 50, 54, 32, 48, 55, 58, 48, 56, 58, 48, 57, 32, 43, 48, 49, 48, 48]⟩ : ByteArray), (⟨#[48, 53, 32, 74, 97, 110, 32, 50, 48, 50, 54, 32, 48, 55, 58, 48, 56, 58, 48, 57, 32, 85, 84]⟩ : ByteArray), (⟨#[50, 57, 32, 70, 101, 98, 32, 50, 48, 50, 51, 32, 48, 48, 58, 48, 48, 32, 71, 77, 84]⟩ : ByteArray), (⟨#[49, 32, 74, 97, 110, 32, 49, 57, 55, 48, 32, 48, 48, 58, 48, 48, 58, 48, 48, 32, 43, 48, 49, 48, 48]⟩ : ByteArray)] : List ByteArray))).bind fun bt384 => (some bt384.1)) else ((spec_l4Draw.f k bt376.1 bt379.2).bind fun bt386 => ((spec_FormatDate.f k bt386.1 bt386.2.1 bt386.2.2.1 bt386.2.2.2.1 bt386.2.2.2.2.1 bt386.2.2.2.2.2.1 bt386.2.2.2.2.2.2.1).bind fun t394 => ((spec_l1Bend.f k bt376.1 bt386.2.2.2.2.2.2.2 t394 (([(⟨#[]⟩ : ByteArray), (⟨#[32]⟩ : ByteArray), (⟨#[44]⟩ : ByteArray), (⟨#[48]⟩ : ByteArray), (⟨#[58]⟩ : ByteArray), (⟨#[43]⟩ : ByteArray)] : List ByteArray))).bind fun bt398 => (some bt398.1))))))) = some r := h
 clear h
 replace H := bI.mp H
 obtain ⟨⟨t376, t377⟩, A20, H⟩ := H
 (try dsimp only at H)
 have A2 := aM A20
 clear A20
 replace H := bI.mp H
 obtain ⟨⟨t379, t380⟩, A30, H⟩ := H
 (try dsimp only at H)
 have A3 := aM A30
 clear A30
 by_cases c4 : t379 = 0
 ·rw [if_pos c4] at H
  have c4b0 : (t379 == 0) = true := beq_iff_eq.mpr c4
  have c4b1 : (t379 != 0) = false := bne_eq_false_iff_eq.mpr c4
  clear c4
  obtain ⟨y381, hy381⟩ : ∃ y_ : List ByteArray, y_ = (([(⟨#[53, 32, 106, 97, 110, 32, 50, 48, 50, 54, 32, 48, 55, 58, 48, 56, 32, 71, 77, 84]⟩ : ByteArray), (⟨#[77, 111, 110, 44, 32, 32, 53, 32, 32, 74, 97, 110, 32, 50, 48, 50, 54, 32, 48, 55, 58, 48, 56, 58, 48, 57, 32, 43, 48, 49, 48, 48]⟩ : ByteArray), (⟨#[84, 117, 101, 44, 32, 53, 32, 74, 97, 110, 32, 50, 48, 50, 54, 32, 48, 55, 58, 48, 56, 58, 48, 57, 32, 43, 48, 49, 48, 48]⟩ : ByteArray), (⟨#[48, 53, 32, 74, 97, 110, 32, 50, 48, 50, 54, 32, 48, 55, 58, 48, 56, 58, 48, 57, 32, 85, 84]⟩ : ByteArray), (⟨#[50, 57, 32, 70, 101, 98, 32, 50, 48, 50, 51, 32, 48, 48, 58, 48, 48, 32, 71, 77, 84]⟩ : ByteArray), (⟨#[49, 32, 74, 97, 110, 32, 49, 57, 55, 48, 32, 48, 48, 58, 48, 48, 58, 48, 48, 32, 43, 48, 49, 48, 48]⟩ : ByteArray)] : List ByteArray)) := ⟨_, rfl⟩
  replace H : ((spec_l13Rd_of.f k t376 t380 y381).bind fun bt384 => (some bt384.1)) = some r := by first | (rw [hy381]; with_reducible exact H) | (have H2_ := (Option.bind_some _ _).symm.trans H; rw [hy381]; with_reducible exact H2_) | (have H2_ := (Option.bind_some _ _).symm.trans H; with_reducible exact H2_) | with_reducible exact H | (rw [hy381]; exact H) | exact H
  have Ny381 := aM hy381
  clear hy381
  replace H := bI.mp H
  obtain ⟨⟨t384, t385⟩, A50, H⟩ := H
  (try dsimp only at H)
  have A5 := aM A50
  clear A50
  obtain rfl := Option.some.inj H
  go_enter Tryd.func20, Tryd.ntmps20
  go_wp2_with (first | ((with_reducible refine gate_callee (f := 54) rfl ?_); refine goesL_ (some 5) rfl rfl Tryd.func54 (by kernel_rfl) rfl #[.slice A0 l0.length c0] rfl (by (try simp only [mT, mC, mN]) <;> rfl) ?_; (with_reducible refine (spec_l13Open.calls _ _ l0 t376 t377 w _ ?side1 ?side2 ?side3 A2.out).mono ?_); (case side1 => repeat (first | (with_reducible first | exact HB.out | apply Be | apply Bc | apply Bd) | exact HB.out)); (case side2 => exact HR0.out); (case side3 => exact HC0.out); rintro e w6 ⟨g378, rfl, hi, hb, hb2⟩; refine ⟨_, rfl, ?_⟩; have n0_ := aM (hb); have n1_ := aM (hi); clear HB; have HB := n0_; have HI378 := n1_; clear n0_ n1_; (try clear hb); (try clear hb2); (try clear hk); (try clear hi)) | ((with_reducible refine gate_callee (f := 55) rfl ?_); refine goesL_ (some 7) rfl rfl Tryd.func55 (by kernel_rfl) rfl #[.pointer (some ⟨g378, 0, none⟩), .int .i64 4] rfl (by (try simp only [mT, mC, mN]) <;> rfl) ?_; (with_reducible refine (spec_l13Rd_pick.calls k g378 t376 t377 4 t379 t380 w _ ?side1 ?side2 A3.out).mono ?_); (case side1 => repeat (first | (with_reducible first | exact HI378.out | apply IsS87.alloc | apply IsS87.drewN | apply IsS87.drew | apply IsS87.set_1) | exact HI378.out)); (case side2 => repeat (first | (with_reducible first | exact HB.out | apply Be | apply Bc | apply Bd | refine Bs ?_ (IsS87.ge HI378.out)) | exact HB.out)); rintro e w7 ⟨rfl, hi, hb, hk⟩; refine ⟨_, rfl, ?_⟩; have n0_ := aM (hb); have n1_ := aM (hi); clear HB; clear HI378; have HB := n0_; have HI378 := n1_; clear n0_ n1_; (try clear hb); (try clear hb2); (try clear hk); (try clear hi)) | ((with_reducible refine gate_dst (N := 10) rfl ?_); refine Kd.R_lit Kd.string _ 9 ?hg (N := 10) ?hd (xs := ([(⟨#[53, 32, 106, 97, 110, 32, 50, 48, 50, 54, 32, 48, 55, 58, 48, 56, 32, 71, 77, 84]⟩ : ByteArray), (⟨#[77, 111, 110, 44, 32, 32, 53, 32, 32, 74, 97, 110, 32, 50, 48, 50, 54, 32, 48, 55, 58, 48, 56, 58, 48, 57, 32, 43, 48, 49, 48, 48]⟩ : ByteArray), (⟨#[84, 117, 101, 44, 32, 53, 32, 74, 97, 110, 32, 50, 48, 50, 54, 32, 48, 55, 58, 48, 56, 58, 48, 57, 32, 43, 48, 49, 48, 48]⟩ : ByteArray), (⟨#[48, 53, 32, 74, 97, 110, 32, 50, 48, 50, 54, 32, 48, 55, 58, 48, 56, 58, 48, 57, 32, 85, 84]⟩ : ByteArray), (⟨#[50, 57, 32, 70, 101, 98, 32, 50, 48, 50, 51, 32, 48, 48, 58, 48, 48, 32, 71, 77, 84]⟩ : ByteArray), (⟨#[49, 32, 74, 97, 110, 32, 49, 57, 55, 48, 32, 48, 48, 58, 48, 48, 58, 48, 48, 32, 43, 48, 49, 48, 48]⟩ : ByteArray)] : List ByteArray)) (inner := [.string (⟨#[53, 32, 106, 97, 110, 32, 50, 48, 50, 54, 32, 48, 55, 58, 48, 56, 32, 71, 77, 84]⟩ : ByteArray), .string (⟨#[77, 111, 110, 44, 32, 32, 53, 32, 32, 74, 97, 110, 32, 50, 48, 50, 54, 32, 48, 55, 58, 48, 56, 58, 48, 57, 32, 43, 48, 49, 48, 48]⟩ : ByteArray), .string (⟨#[84, 117, 101, 44, 32, 53, 32, 74, 97, 110, 32, 50, 48, 50, 54, 32, 48, 55, 58, 48, 56, 58, 48, 57, 32, 43, 48, 49, 48, 48]⟩ : ByteArray), .string (⟨#[48, 53, 32, 74, 97, 110, 32, 50, 48, 50, 54, 32, 48, 55, 58, 48, 56, 58, 48, 57, 32, 85, 84]⟩ : ByteArray), .string (⟨#[50, 57, 32, 70, 101, 98, 32, 50, 48, 50, 51, 32, 48, 48, 58, 48, 48, 32, 71, 77, 84]⟩ : ByteArray), .string (⟨#[49, 32, 74, 97, 110, 32, 49, 57, 55, 48, 32, 48, 48, 58, 48, 48, 58, 48, 48, 32, 43, 48, 49, 48, 48]⟩ : ByteArray)]) (ok := fun _ => True) (okp := fun _ => True) ?hr ?hp (fun _ hk => hk) trivial (Below.refl _ _) (Nat.le_refl _) (by simp) ?_; (case hd => rfl); (case hg => rfl); (case hr => first | (go_simp; done) | (go_simp; rfl)); (case hp => exact (Reps.one (show Kd.M Kd.string _ _ _ (⟨#[53, 32, 106, 97, 110, 32, 50, 48, 50, 54, 32, 48, 55, 58, 48, 56, 32, 71, 77, 84]⟩ : ByteArray) [.string (⟨#[53, 32, 106, 97, 110, 32, 50, 48, 50, 54, 32, 48, 55, 58, 48, 56, 32, 71, 77, 84]⟩ : ByteArray)] from rfl) (Reps.one (show Kd.M Kd.string _ _ _ (⟨#[77, 111, 110, 44, 32, 32, 53, 32, 32, 74, 97, 110, 32, 50, 48, 50, 54, 32, 48, 55, 58, 48, 56, 58, 48, 57, 32, 43, 48, 49, 48, 48]⟩ : ByteArray) [.string (⟨#[77, 111, 110, 44, 32, 32, 53, 32, 32, 74, 97, 110, 32, 50, 48, 50, 54, 32, 48, 55, 58, 48, 56, 58, 48, 57, 32, 43, 48, 49, 48, 48]⟩ : ByteArray)] from rfl) (Reps.one (show Kd.M Kd.string _ _ _ (⟨#[84, 117, 101, 44, 32, 53, 32, 74, 97, 110, 32, 50, 48, 50, 54, 32, 48, 55, 58, 48, 56, 58, 48, 57, 32, 43, 48, 49, 48, 48]⟩ : ByteArray) [.string (⟨#[84, 117, 101, 44, 32, 53, 32, 74, 97, 110, 32, 50, 48, 50, 54, 32, 48, 55, 58, 48, 56, 58, 48, 57, 32, 43, 48, 49, 48, 48]⟩ : ByteArray)] from rfl) (Reps.one (show Kd.M Kd.string _ _ _ (⟨#[48, 53, 32, 74, 97, 110, 32, 50, 48, 50, 54, 32, 48, 55, 58, 48, 56, 58, 48, 57, 32, 85, 84]⟩ : ByteArray) [.string (⟨#[48, 53, 32, 74, 97, 110, 32, 50, 48, 50, 54, 32, 48, 55, 58, 48, 56, 58, 48, 57, 32, 85, 84]⟩ : ByteArray)] from rfl) (Reps.one (show Kd.M Kd.string _ _ _ (⟨#[50, 57, 32, 70, 101, 98, 32, 50, 48, 50, 51, 32, 48, 48, 58, 48, 48, 32, 71, 77, 84]⟩ : ByteArray) [.string (⟨#[50, 57, 32, 70, 101, 98, 32, 50, 48, 50, 51, 32, 48, 48, 58, 48, 48, 32, 71, 77, 84]⟩ : ByteArray)] from rfl) (Reps.one (show Kd.M Kd.string _ _ _ (⟨#[49, 32, 74, 97, 110, 32, 49, 57, 55, 48, 32, 48, 48, 58, 48, 48, 58, 48, 48, 32, 43, 48, 49, 48, 48]⟩ : ByteArray) [.string (⟨#[49, 32, 74, 97, 110, 32, 49, 57, 55, 48, 32, 48, 48, 58, 48, 48, 58, 48, 48, 32, 43, 48, 49, 48, 48]⟩ : ByteArray)] from rfl) (Reps.none _ _)))))))); intro v382 w8 ho9 hb hg_ hnew_; clear hg_ hnew_; (first | rw [← Ny381.out] at ho9 | (simp only [Int.reduceToNat] at ho9; rw [← Ny381.out] at ho9)); have n0_ := aM (Kd.R_lower ho9 (below_size (by repeat (first | (with_reducible first | exact HB.out | apply Be | apply Bc | apply Bd | refine Bs ?_ (IsS87.ge HI378.out)) | exact HB.out)))); have n1_ := aM (IsS87.below (by repeat (first | (with_reducible first | exact HI378.out | apply IsS87.alloc | apply IsS87.drewN | apply IsS87.drew | apply IsS87.set_1) | exact HI378.out)) hb); have n2_ := aM (below_step (by repeat (first | (with_reducible first | exact HB.out | apply Be | apply Bc | apply Bd | refine Bs ?_ (IsS87.ge HI378.out)) | exact HB.out)) hb); clear HI378; clear HB; have HO383 := n0_; have HI378 := n1_; have HB := n2_; clear n0_ n1_ n2_; clear hb ho9; obtain ⟨Ao10, co10, eo10⟩ := Kd.R_slice HO383.out; subst eo10) | ((with_reducible refine gate_callee (f := 56) rfl ?_); refine goesL_ (some 11) rfl rfl Tryd.func56 (by kernel_rfl) rfl #[.pointer (some ⟨g378, 0, none⟩), .slice Ao10 y381.length co10] rfl (by (try simp only [mT, mC, mN]) <;> rfl) ?_; (with_reducible refine (spec_l13Rd_of.calls k g378 t376 t380 _ _ y381 t384 t385 w _ ?side1 ?side2 ?side3 ?side4 ?side5 A5.out).mono ?_); (case side1 => repeat (first | (with_reducible first | exact HI378.out | apply IsS87.alloc | apply IsS87.drewN | apply IsS87.drew | apply IsS87.set_1) | exact HI378.out)); (case side2 => repeat (first | (with_reducible first | exact HB.out | apply Be | apply Bc | apply Bd | refine Bs ?_ (IsS87.ge HI378.out)) | exact HB.out)); (case side3 => repeat (first | exact (Kd.R_reads' HO383.out).2.2 | (with_reducible refine Kd.C_alloc ?_ _) | (with_reducible refine Kd.C_drewN ?_ _) | (with_reducible refine Kd.C_drew ?_))); (case side4 => exact (Kd.R_reads' HO383.out).2.1); (case side5 => exact far_slice (IsS87.own_ne HI378.out HO383.out (by decide))); rintro e w11 ⟨rfl, hi, hb, hk⟩; refine ⟨_, rfl, ?_⟩; have n0_ := aM (Kd.R_mono (Kd.R_keep (IsS87.apart (show IsS87 w _ g378 t376 t380 from by repeat (first | (with_reducible first | exact HI378.out | apply IsS87.alloc | apply IsS87.drewN | apply IsS87.drew | apply IsS87.set_1) | exact HI378.out)) (by (with_reducible repeat (first | apply Kd.R_alloc | apply Kd.R_drewN | apply Kd.R_drew)); exact HO383.out) (by decide)) hk (fun _ h => h.2)) (fun _ h => h.1)); have n1_ := aM (hb); have n2_ := aM (hi); clear HO383; clear HB; clear HI378; have HO383 := n0_; have HB := n1_; have HI378 := n2_; clear n0_ n1_ n2_; (try clear hb); (try clear hb2); (try clear hk); (try clear hi)))
  go_ret
  exact ⟨by first | rfl | (simp [errW_none, errW_some] <;> rfl) | (simp [*, errW_none, errW_some] <;> rfl), by repeat (first | (with_reducible first | exact HB.out | apply Be | apply Bc | apply Bd | refine Bs ?_ (IsS87.ge HI378.out)) | exact HB.out)⟩
 rw [if_neg c4] at H
 have c4b0 : (t379 == 0) = false := beq_eq_false_iff_ne.mpr c4
 have c4b1 : (t379 != 0) = true := bne_iff_ne.mpr c4
 replace H := bI.mp H
 obtain ⟨⟨t386, t387, t388, t389, t390, t391, t392, t393⟩, A120, H⟩ := H
 (try dsimp only at H)
 have A12 := aM A120
 clear A120
 replace H := bI.mp H
 obtain ⟨t394, A130, H⟩ := H
 (try dsimp only at H)
 have A13 := aM A130
 clear A130
 obtain ⟨y395, hy395⟩ : ∃ y_ : List ByteArray, y_ = (([(⟨#[]⟩ : ByteArray), (⟨#[32]⟩ : ByteArray), (⟨#[44]⟩ : ByteArray), (⟨#[48]⟩ : ByteArray), (⟨#[58]⟩ : ByteArray), (⟨#[43]⟩ : ByteArray)] : List ByteArray)) := ⟨_, rfl⟩
 replace H : ((spec_l1Bend.f k t376 t393 t394 y395).bind fun bt398 => (some bt398.1)) = some r := by first | (rw [hy395]; with_reducible exact H) | (have H2_ := (Option.bind_some _ _).symm.trans H; rw [hy395]; with_reducible exact H2_) | (have H2_ := (Option.bind_some _ _).symm.trans H; with_reducible exact H2_) | with_reducible exact H | (rw [hy395]; exact H) | exact H
 have Ny395 := aM hy395
 clear hy395
 replace H := bI.mp H
 obtain ⟨⟨t398, t399⟩, A140, H⟩ := H
 (try dsimp only at H)
 have A14 := aM A140
 clear A140
 obtain rfl := Option.some.inj H
 go_enter Tryd.func20, Tryd.ntmps20
 go_wp2_with (first | ((with_reducible refine gate_callee (f := 54) rfl ?_); refine goesL_ (some 5) rfl rfl Tryd.func54 (by kernel_rfl) rfl #[.slice A0 l0.length c0] rfl (by (try simp only [mT, mC, mN]) <;> rfl) ?_; (with_reducible refine (spec_l13Open.calls _ _ l0 t376 t377 w _ ?side1 ?side2 ?side3 A2.out).mono ?_); (case side1 => repeat (first | (with_reducible first | exact HB.out | apply Be | apply Bc | apply Bd) | exact HB.out)); (case side2 => exact HR0.out); (case side3 => exact HC0.out); rintro e w15 ⟨g378, rfl, hi, hb, hb2⟩; refine ⟨_, rfl, ?_⟩; have n0_ := aM (hb); have n1_ := aM (hi); clear HB; have HB := n0_; have HI378 := n1_; clear n0_ n1_; (try clear hb); (try clear hb2); (try clear hk); (try clear hi)) | ((with_reducible refine gate_callee (f := 55) rfl ?_); refine goesL_ (some 7) rfl rfl Tryd.func55 (by kernel_rfl) rfl #[.pointer (some ⟨g378, 0, none⟩), .int .i64 4] rfl (by (try simp only [mT, mC, mN]) <;> rfl) ?_; (with_reducible refine (spec_l13Rd_pick.calls k g378 t376 t377 4 t379 t380 w _ ?side1 ?side2 A3.out).mono ?_); (case side1 => repeat (first | (with_reducible first | exact HI378.out | apply IsS87.alloc | apply IsS87.drewN | apply IsS87.drew | apply IsS87.set_1) | exact HI378.out)); (case side2 => repeat (first | (with_reducible first | exact HB.out | apply Be | apply Bc | apply Bd | refine Bs ?_ (IsS87.ge HI378.out)) | exact HB.out)); rintro e w16 ⟨rfl, hi, hb, hk⟩; refine ⟨_, rfl, ?_⟩; have n0_ := aM (hb); have n1_ := aM (hi); clear HB; clear HI378; have HB := n0_; have HI378 := n1_; clear n0_ n1_; (try clear hb); (try clear hb2); (try clear hk); (try clear hi)) | ((with_reducible refine gate_callee (f := 58) rfl ?_); refine goesL_ (some 14) rfl rfl Tryd.func58 (by kernel_rfl) rfl #[.pointer (some ⟨g378, 0, none⟩)] rfl (by (try simp only [mT, mC, mN]) <;> rfl) ?_; (with_reducible refine (spec_l4Draw.calls k g378 t376 t380 t386 t387 t388 t389 t390 t391 t392 t393 w _ ?side1 ?side2 A12.out).mono ?_); (case side1 => repeat (first | (with_reducible first | exact HI378.out | apply IsS87.alloc | apply IsS87.drewN | apply IsS87.drew | apply IsS87.set_1) | exact HI378.out)); (case side2 => repeat (first | (with_reducible first | exact HB.out | apply Be | apply Bc | apply Bd | refine Bs ?_ (IsS87.ge HI378.out)) | exact HB.out)); rintro e w17 ⟨rfl, hi, hb, hk⟩; refine ⟨_, rfl, ?_⟩; have n0_ := aM (hb); have n1_ := aM (hi); clear HB; clear HI378; have HB := n0_; have HI378 := n1_; clear n0_ n1_; (try clear hb); (try clear hb2); (try clear hk); (try clear hi)) | ((with_reducible refine gate_callee (f := 11) rfl ?_); refine goesL_ (some 15) rfl rfl Tryd.func11 (by kernel_rfl) rfl #[.agg #[.int .i64 t386, .int .i64 t387, .int .i64 t388, .int .i64 t389, .int .i64 t390, .int .i64 t391, .int .i64 t392]] rfl (by (try simp only [mT, mC, mN]) <;> rfl) ?_; (with_reducible refine (spec_FormatDate.calls k t386 t387 t388 t389 t390 t391 t392 t394 _ A13.out).mono ?_); rintro e w18 ⟨rfl, hb⟩; refine ⟨_, rfl, ?_⟩; have n0_ := aM (IsS87.below (by repeat (first | (with_reducible first | exact HI378.out | apply IsS87.alloc | apply IsS87.drewN | apply IsS87.drew | apply IsS87.set_1) | exact HI378.out)) hb); have n1_ := aM (below_step (by repeat (first | (with_reducible first | exact HB.out | apply Be | apply Bc | apply Bd | refine Bs ?_ (IsS87.ge HI378.out)) | exact HB.out)) hb); clear HI378; clear HB; have HI378 := n0_; have HB := n1_; clear n0_ n1_; (try clear hb); (try clear hb2); (try clear hk); (try clear hi)) | ((with_reducible refine gate_dst (N := 16) rfl ?_); refine Kd.R_lit Kd.string _ 9 ?hg (N := 16) ?hd (xs := ([(⟨#[]⟩ : ByteArray), (⟨#[32]⟩ : ByteArray), (⟨#[44]⟩ : ByteArray), (⟨#[48]⟩ : ByteArray), (⟨#[58]⟩ : ByteArray), (⟨#[43]⟩ : ByteArray)] : List ByteArray)) (inner := [.string (⟨#[]⟩ : ByteArray), .string (⟨#[32]⟩ : ByteArray), .string (⟨#[44]⟩ : ByteArray), .string (⟨#[48]⟩ : ByteArray), .string (⟨#[58]⟩ : ByteArray), .string (⟨#[43]⟩ : ByteArray)]) (ok := fun _ => True) (okp := fun _ => True) ?hr ?hp (fun _ hk => hk) trivial (Below.refl _ _) (Nat.le_refl _) (by simp) ?_; (case hd => rfl); (case hg => rfl); (case hr => first | (go_simp; done) | (go_simp; rfl)); (case hp => exact (Reps.one (show Kd.M Kd.string _ _ _ (⟨#[]⟩ : ByteArray) [.string (⟨#[]⟩ : ByteArray)] from rfl) (Reps.one (show Kd.M Kd.string _ _ _ (⟨#[32]⟩ : ByteArray) [.string (⟨#[32]⟩ : ByteArray)] from rfl) (Reps.one (show Kd.M Kd.string _ _ _ (⟨#[44]⟩ : ByteArray) [.string (⟨#[44]⟩ : ByteArray)] from rfl) (Reps.one (show Kd.M Kd.string _ _ _ (⟨#[48]⟩ : ByteArray) [.string (⟨#[48]⟩ : ByteArray)] from rfl) (Reps.one (show Kd.M Kd.string _ _ _ (⟨#[58]⟩ : ByteArray) [.string (⟨#[58]⟩ : ByteArray)] from rfl) (Reps.one (show Kd.M Kd.string _ _ _ (⟨#[43]⟩ : ByteArray) [.string (⟨#[43]⟩ : ByteArray)] from rfl) (Reps.none _ _)))))))); intro v396 w19 ho20 hb hg_ hnew_; clear hg_ hnew_; (first | rw [← Ny395.out] at ho20 | (simp only [Int.reduceToNat] at ho20; rw [← Ny395.out] at ho20)); have n0_ := aM (Kd.R_lower ho20 (below_size (by repeat (first | (with_reducible first | exact HB.out | apply Be | apply Bc | apply Bd | refine Bs ?_ (IsS87.ge HI378.out)) | exact HB.out)))); have n1_ := aM (IsS87.below (by repeat (first | (with_reducible first | exact HI378.out | apply IsS87.alloc | apply IsS87.drewN | apply IsS87.drew | apply IsS87.set_1) | exact HI378.out)) hb); have n2_ := aM (below_step (by repeat (first | (with_reducible first | exact HB.out | apply Be | apply Bc | apply Bd | refine Bs ?_ (IsS87.ge HI378.out)) | exact HB.out)) hb); clear HI378; clear HB; have HO397 := n0_; have HI378 := n1_; have HB := n2_; clear n0_ n1_ n2_; clear hb ho20; obtain ⟨Ao21, co21, eo21⟩ := Kd.R_slice HO397.out; subst eo21) | ((with_reducible refine gate_callee (f := 57) rfl ?_); refine goesL_ (some 17) rfl rfl Tryd.func57 (by kernel_rfl) rfl #[.pointer (some ⟨g378, 0, none⟩), .string t394, .slice Ao21 y395.length co21] rfl (by (try simp only [mT, mC, mN]) <;> rfl) ?_; (with_reducible refine (spec_l1Bend.calls k g378 t376 t393 t394 _ _ y395 t398 t399 w _ ?side1 ?side2 ?side3 ?side4 ?side5 A14.out).mono ?_); (case side1 => repeat (first | (with_reducible first | exact HI378.out | apply IsS87.alloc | apply IsS87.drewN | apply IsS87.drew | apply IsS87.set_1) | exact HI378.out)); (case side2 => repeat (first | (with_reducible first | exact HB.out | apply Be | apply Bc | apply Bd | refine Bs ?_ (IsS87.ge HI378.out)) | exact HB.out)); (case side3 => repeat (first | exact (Kd.R_reads' HO397.out).2.2 | (with_reducible refine Kd.C_alloc ?_ _) | (with_reducible refine Kd.C_drewN ?_ _) | (with_reducible refine Kd.C_drew ?_))); (case side4 => exact (Kd.R_reads' HO397.out).2.1); (case side5 => exact far_slice (IsS87.own_ne HI378.out HO397.out (by decide))); rintro e w22 ⟨rfl, hi, hb, hk⟩; refine ⟨_, rfl, ?_⟩; have n0_ := aM (Kd.R_mono (Kd.R_keep (IsS87.apart (show IsS87 w _ g378 t376 t393 from by repeat (first | (with_reducible first | exact HI378.out | apply IsS87.alloc | apply IsS87.drewN | apply IsS87.drew | apply IsS87.set_1) | exact HI378.out)) (by (with_reducible repeat (first | apply Kd.R_alloc | apply Kd.R_drewN | apply Kd.R_drew)); exact HO397.out) (by decide)) hk (fun _ h => h.2)) (fun _ h => h.1)); have n1_ := aM (hb); have n2_ := aM (hi); clear HO397; clear HB; clear HI378; have HO397 := n0_; have HB := n1_; have HI378 := n2_; clear n0_ n1_ n2_; (try clear hb); (try clear hb2); (try clear hk); (try clear hi)))
 go_ret
 exact ⟨by first | rfl | (simp [errW_none, errW_some] <;> rfl) | (simp [*, errW_none, errW_some] <;> rfl), by repeat (first | (with_reducible first | exact HB.out | apply Be | apply Bc | apply Bd | refine Bs ?_ (IsS87.ge HI378.out)) | exact HB.out)⟩
end Go.Proofs.YtafpbechcjcdbaaDoor.PFnDateText
