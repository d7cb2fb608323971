-- Written by a program of this session (wip/tool/myprint.py) out of the translation.
import Derived.Test.YtdkgbemlfajhcaaPFnExactDecodeBytesx0
import Derived.Test.YtdkgbemlfajhcaaPFnExactDecodeBytesx5
namespace Go.Proofs.Ytdkgbemlfajhcaa.PFnExactDecodeBytes
open Go.RowKit Go.Proofs.YtdkgbemlfajhcaaW.PrintWords Go.Proofs.YtdkgbemlfajhcaaW.PrintLast Go.Proofs.YtdkgbemlfajhcaaW.PrintMore
attribute [local go_sem] max2_int min2_int max_two min_two max_three min_three max_four min_four   -- for this text's walks alone
set_option linter.unusedVariables false
set_option linter.unusedSimpArgs false

/-! ### impl_DecodeQuoted: function 14 -/
mutual
def impl_DecodeQuoted.l0 : Nat → List Int → Bool → List ByteArray → Int → Int → Option (ByteArray × Bool)
 | 0, _, _, _, _, _ => none
 | k + 1, x4, x5, x12, x13, x14 => if x14 < x13 then (if 0 ≤ x14 then (if x14 < (x12.length : Int) then (if x5 = true then (impl_DecodeQuoted.j1 k x4 (rdOf ByteArray.empty x12 x14) x12 x13 x14) else (if x4.length < 140737488355328 then (impl_DecodeQuoted.j1 k (x4 ++ [10]) (rdOf ByteArray.empty x12 x14) x12 x13 x14) else (none))) else (none)) else (none)) else (if x5 = true then (some ((⟨#[]⟩ : ByteArray), false)) else (if (x4.length : Int) > 300 then (some ((⟨#[]⟩ : ByteArray), false)) else (some (strOfNums x4, true))))
def impl_DecodeQuoted.j1 : Nat → List Int → ByteArray → List ByteArray → Int → Int → Option (ByteArray × Bool)
 | 0, _, _, _, _, _ => none
 | k + 1, x4, x7, x12, x13, x14 => impl_DecodeQuoted.l1 k x4 false x7 0 x12 x13 x14
def impl_DecodeQuoted.l1 : Nat → List Int → Bool → ByteArray → Int → List ByteArray → Int → Int → Option (ByteArray × Bool)
 | 0, _, _, _, _, _, _, _ => none
 | k + 1, x4, x5, x7, x8, x12, x13, x14 => if x8 < (x7.size : Int) then (if 0 ≤ x8 then (if (bt x7 x8) = 61 then (impl_DecodeQuoted.j3 k x4 x5 x7 x8 x12 x13 x14 ((wrap64 (x8 + 1)) == (x7.size : Int))) else (impl_DecodeQuoted.j3 k x4 x5 x7 x8 x12 x13 x14 false)) else (none)) else (impl_DecodeQuoted.l0 k x4 x5 x12 x13 (wrap64 (x14 + 1)))
def impl_DecodeQuoted.j3 : Nat → List Int → Bool → ByteArray → Int → List ByteArray → Int → Int → Bool → Option (ByteArray × Bool)
 | 0, _, _, _, _, _, _, _, _ => none
 | k + 1, x4, x5, x7, x8, x12, x13, x14, x29 => if x29 = true then (impl_DecodeQuoted.l1 k x4 true x7 (wrap64 (x8 + 1)) x12 x13 x14) else (if 0 ≤ x8 then (if x8 < (x7.size : Int) then (if (bt x7 x8) = 61 then (if x8 ≤ (x7.size : Int) then ((impl_hexOf.f k (x7.extract (x8 : Int).toNat x7.size)).bind fun bt165 => (if bt165.2 = true then (if x4.length < 140737488355328 then (impl_DecodeQuoted.l1 k (x4 ++ [bt165.1]) x5 x7 (wrap64 ((wrap64 (x8 + 2)) + 1)) x12 x13 x14) else (none)) else (some ((⟨#[]⟩ : ByteArray), false)))) else (none)) else (if (bt x7 x8) ≥ 32 then (if (bt x7 x8) ≤ 126 then (if x4.length < 140737488355328 then (impl_DecodeQuoted.l1 k (x4 ++ [bt x7 x8]) x5 x7 (wrap64 (x8 + 1)) x12 x13 x14) else (none)) else (some ((⟨#[]⟩ : ByteArray), false))) else (some ((⟨#[]⟩ : ByteArray), false)))) else (none)) else (none))
end
def impl_DecodeQuoted.f (k : Nat) (l0 : List ByteArray) : Option (ByteArray × Bool) := impl_DecodeQuoted.l0 k (([] : List Int)) true l0 (l0.length : Int) 0
theorem impl_DecodeQuoted.mono_l : ∀ k, (∀ y0 y1 y2 y3 y4, LeO (impl_DecodeQuoted.l0 k y0 y1 y2 y3 y4) (impl_DecodeQuoted.l0 (k + 1) y0 y1 y2 y3 y4)) ∧ (∀ y0 y1 y2 y3 y4, LeO (impl_DecodeQuoted.j1 k y0 y1 y2 y3 y4) (impl_DecodeQuoted.j1 (k + 1) y0 y1 y2 y3 y4)) ∧ (∀ y0 y1 y2 y3 y4 y5 y6, LeO (impl_DecodeQuoted.l1 k y0 y1 y2 y3 y4 y5 y6) (impl_DecodeQuoted.l1 (k + 1) y0 y1 y2 y3 y4 y5 y6)) ∧ (∀ y0 y1 y2 y3 y4 y5 y6 y7, LeO (impl_DecodeQuoted.j3 k y0 y1 y2 y3 y4 y5 y6 y7) (impl_DecodeQuoted.j3 (k + 1) y0 y1 y2 y3 y4 y5 y6 y7))
 | 0 => ⟨fun _ _ _ _ _ r h => by simp [impl_DecodeQuoted.l0] at h, fun _ _ _ _ _ r h => by simp [impl_DecodeQuoted.j1] at h, fun _ _ _ _ _ _ _ r h => by simp [impl_DecodeQuoted.l1] at h, fun _ _ _ _ _ _ _ _ r h => by simp [impl_DecodeQuoted.j3] at h⟩
 | k + 1 => by
  obtain ⟨ih0, ih1, ih2, ih3⟩ := impl_DecodeQuoted.mono_l k
  refine ⟨?_, ?_, ?_, ?_⟩
  ·intro y0 y1 y2 y3 y4
   unfold impl_DecodeQuoted.l0
   repeat' first
   | (with_reducible exact ih0 _ _ _ _ _)
   | (with_reducible exact ih1 _ _ _ _ _)
   | (with_reducible exact ih2 _ _ _ _ _ _ _)
   | (with_reducible exact ih3 _ _ _ _ _ _ _ _)
   | (with_reducible exact impl_hexOf.mono _ _)
   | (with_reducible exact LeO.refl _)
   | (with_reducible exact LeO.none _)
   | (with_reducible refine LeO.ite ?_ ?_)
   | (with_reducible refine LeO.bind ?_ (fun _ => ?_))
   | exact ih0 _ _ _ _ _
   | exact ih1 _ _ _ _ _
   | exact ih2 _ _ _ _ _ _ _
   | exact ih3 _ _ _ _ _ _ _ _
   | exact impl_hexOf.mono _ _
   | exact LeO.none _
   | refine LeO.ite ?_ ?_
   | refine LeO.bind ?_ (fun _ => ?_)
  ·intro y0 y1 y2 y3 y4
   unfold impl_DecodeQuoted.j1
   repeat' first
   | (with_reducible exact ih0 _ _ _ _ _)
   | (with_reducible exact ih1 _ _ _ _ _)
   | (with_reducible exact ih2 _ _ _ _ _ _ _)
   | (with_reducible exact ih3 _ _ _ _ _ _ _ _)
   | (with_reducible exact impl_hexOf.mono _ _)
   | (with_reducible exact LeO.refl _)
   | (with_reducible exact LeO.none _)
   | (with_reducible refine LeO.ite ?_ ?_)
   | (with_reducible refine LeO.bind ?_ (fun _ => ?_))
   | exact ih0 _ _ _ _ _
   | exact ih1 _ _ _ _ _
   | exact ih2 _ _ _ _ _ _ _
   | exact ih3 _ _ _ _ _ _ _ _
   | exact impl_hexOf.mono _ _
   | exact LeO.none _
   | refine LeO.ite ?_ ?_
   | refine LeO.bind ?_ (fun _ => ?_)
  ·intro y0 y1 y2 y3 y4 y5 y6
   unfold impl_DecodeQuoted.l1
   repeat' first
   | (with_reducible exact ih0 _ _ _ _ _)
   | (with_reducible exact ih1 _ _ _ _ _)
   | (with_reducible exact ih2 _ _ _ _ _ _ _)
   | (with_reducible exact ih3 _ _ _ _ _ _ _ _)
   | (with_reducible exact impl_hexOf.mono _ _)
   | (with_reducible exact LeO.refl _)
   | (with_reducible exact LeO.none _)
   | (with_reducible refine LeO.ite ?_ ?_)
   | (with_reducible refine LeO.bind ?_ (fun _ => ?_))
   | exact ih0 _ _ _ _ _
   | exact ih1 _ _ _ _ _
   | exact ih2 _ _ _ _ _ _ _
   | exact ih3 _ _ _ _ _ _ _ _
   | exact impl_hexOf.mono _ _
   | exact LeO.none _
   | refine LeO.ite ?_ ?_
   | refine LeO.bind ?_ (fun _ => ?_)
  ·intro y0 y1 y2 y3 y4 y5 y6 y7
   unfold impl_DecodeQuoted.j3
   repeat' first
   | (with_reducible exact ih0 _ _ _ _ _)
   | (with_reducible exact ih1 _ _ _ _ _)
   | (with_reducible exact ih2 _ _ _ _ _ _ _)
   | (with_reducible exact ih3 _ _ _ _ _ _ _ _)
   | (with_reducible exact impl_hexOf.mono _ _)
   | (with_reducible exact LeO.refl _)
   | (with_reducible exact LeO.none _)
   | (with_reducible refine LeO.ite ?_ ?_)
   | (with_reducible refine LeO.bind ?_ (fun _ => ?_))
   | exact ih0 _ _ _ _ _
   | exact ih1 _ _ _ _ _
   | exact ih2 _ _ _ _ _ _ _
   | exact ih3 _ _ _ _ _ _ _ _
   | exact impl_hexOf.mono _ _
   | exact LeO.none _
   | refine LeO.ite ?_ ?_
   | refine LeO.bind ?_ (fun _ => ?_)
theorem impl_DecodeQuoted.mono : ∀ a0 k, LeO (impl_DecodeQuoted.f k a0) (impl_DecodeQuoted.f (k + 1) a0) := by
 intro a0 k
 obtain ⟨ih0, ih1, ih2, ih3⟩ := impl_DecodeQuoted.mono_l k
 unfold impl_DecodeQuoted.f
 repeat' first
   | (with_reducible exact ih0 _ _ _ _ _)
   | (with_reducible exact ih1 _ _ _ _ _)
   | (with_reducible exact ih2 _ _ _ _ _ _ _)
   | (with_reducible exact ih3 _ _ _ _ _ _ _ _)
   | (with_reducible exact impl_hexOf.mono _ _)
   | (with_reducible exact LeO.refl _)
   | (with_reducible exact LeO.none _)
   | (with_reducible refine LeO.ite ?_ ?_)
   | (with_reducible refine LeO.bind ?_ (fun _ => ?_))
   | exact ih0 _ _ _ _ _
   | exact ih1 _ _ _ _ _
   | exact ih2 _ _ _ _ _ _ _
   | exact ih3 _ _ _ _ _ _ _ _
   | exact impl_hexOf.mono _ _
   | exact LeO.none _
   | refine LeO.ite ?_ ?_
   | refine LeO.bind ?_ (fun _ => ?_)
set_option maxHeartbeats 8000000 in
set_option maxRecDepth 100000 in
theorem impl_DecodeQuoted.calls (k : Nat) (A0 : Option Addr) (c0 : Nat) (l0 : List ByteArray) (r1 : ByteArray) (r2 : Bool) (w : World) (hr0 : Kd.C Kd.string w A0 l0.length l0) (hc0 : l0.length ≤ c0) (h : impl_DecodeQuoted.f k l0 = some (r1, r2)) :
  Calls Try.prog 14 #[.slice A0 l0.length c0] w fun e w' => e = .returned (.tuple #[.string r1, .bool r2]) ∧ Below w.heap.size w w' := by
 have HR0 := Aside0.mk hr0
 have HC0 := Aside0.mk hc0
 clear hr0 hc0
 have HB := Aside0.mk (Below.refl w.heap.size w)
 have H : (impl_DecodeQuoted.l0 k (([] : List Int)) true l0 (l0.length : Int) 0) = some (r1, r2) := h
 clear h
 obtain ⟨y158, hy158⟩ : ∃ y_ : List Int, y_ = (([] : List Int)) := ⟨_, rfl⟩
 replace H : (impl_DecodeQuoted.l0 k y158 true l0 (l0.length : Int) 0) = some (r1, r2) := by first | (rw [hy158]; with_reducible exact H) | (have H2_ := (Option.bind_some _ _).symm.trans H; rw [hy158]; with_reducible exact H2_) | (have H2_ := (Option.bind_some _ _).symm.trans H; with_reducible exact H2_) | with_reducible exact H | (rw [hy158]; exact H) | exact H
 have Ny158 := Aside0.mk hy158
 clear hy158
 have H' := Aside0.mk H
 clear H
 go_enter Try.func14, Try.ntmps14
 go_wp2_with (first | ((with_reducible refine gate_dst (N := 11) rfl ?_); (try (refine gate_guard (by rfl) ?_; dsimp only)); refine Kd.R_lit (Kd.int .u8) _ 5 ?hg (N := 11) ?hd (xs := ([] : List Int)) (inner := []) (ok := fun _ => True) (okp := fun _ => True) ?hr ?hp (fun _ hk => hk) trivial (Below.refl _ _) (Nat.le_refl _) (by simp) ?_; (case hd => rfl); (case hg => rfl); (case hr => first | (go_simp; done) | (go_simp; rfl)); (case hp => exact (Reps.none _ _)); intro v159 w2 ho3 hb hg_ hnew_; clear hg_ hnew_; (first | rw [← Ny158.out] at ho3 | (simp only [Int.reduceToNat] at ho3; rw [← Ny158.out] at ho3)); have n0_ := Aside0.mk (Kd.R_lower ho3 (below_size (by repeat (first | (with_reducible first | exact HB.out | apply below_alloc | apply pw_below_drewN | apply below_drew1) | exact HB.out)))); have n1_ := Aside0.mk (below_step (by repeat (first | (with_reducible first | exact HB.out | apply below_alloc | apply pw_below_drewN | apply below_drew1) | exact HB.out)) hb); clear HB; have HO160 := n0_; have HB := n1_; clear n0_ n1_; clear hb ho3))
 go_loopg [4, 5, 14] k (fun kq v4 v5 v14 w' => ∃ (x4_1 : List Int) (x5_1 : Bool) (x14_1 : Int), v5 = .bool x5_1 ∧ v14 = .int .i64 x14_1 ∧ Aside0 (impl_DecodeQuoted.l0 kq x4_1 x5_1 l0 (l0.length : Int) x14_1 = some (r1, r2)) ∧ Aside0 (kq ≤ k) ∧ Aside0 (Kd.R (Kd.int .u8) 5 w' w.heap.size (fun _ => True) v4 x4_1) ∧ Aside0 (Below w.heap.size w w'))
 case atStart => exact ⟨(y158), (true), (0), (by first | rfl | (simp; done) | (simp [*]; done)), (by first | rfl | (simp; done) | (simp [*]; done)), H', ⟨Nat.le_refl _⟩, ⟨by (with_reducible repeat (first | apply Kd.R_alloc | apply Kd.R_drewN | apply Kd.R_drew)); exact HO160.out⟩, ⟨by repeat (first | (with_reducible first | exact HB.out | apply below_alloc | apply pw_below_drewN | apply below_drew1) | exact HB.out)⟩⟩
 case round =>
  clear H'
  try clear c1
  try clear p2
  obtain ⟨x4_1, x5_1, x14_1, rfl, rfl, HA, HK1, HO_4, HB⟩ := hrel
  cases gk with
  | zero => exact absurd HA.out (by simp [impl_DecodeQuoted.l0])
  | succ k1 =>
   have H := HA.out
   clear HA
   simp only [impl_DecodeQuoted.l0] at H
   by_cases c4 : x14_1 < (l0.length : Int)
   ·rw [if_pos c4] at H
    have c4b0 : decide (x14_1 < (l0.length : Int)) = true := decide_eq_true c4
    clear c4
    by_cases c5 : 0 ≤ x14_1
    ·rw [if_pos c5] at H
     have c5b0 : decide (0 ≤ x14_1) = true := decide_eq_true c5
     clear c5
     by_cases c6 : x14_1 < (l0.length : Int)
     ·rw [if_pos c6] at H
      have c6b0 : decide (x14_1 < (l0.length : Int)) = true := decide_eq_true c6
      clear c6
      have HC7 := Aside0.mk H
      clear H
      have p161 : 0 ≤ (x14_1 : Int) := of_decide_eq_true (by first | (with_reducible assumption) | assumption)
      have q161 : x14_1 < (l0.length : Int) := of_decide_eq_true (by first | (with_reducible assumption) | assumption)
      obtain ⟨ad161, e161, hx161_0⟩ := Kd.at_string HR0.out x14_1 p161 q161
      cases e161
      replace hx161_0 := (HB.out.cell (World.block_lt_of_cell? w _ hx161_0)).trans hx161_0
      replace p161 := eq_true p161
      replace q161 := eq_true q161
      go_upto_if 19 with (fail)
      go_cut [4] (fun v4 wc => ∃ (kq : Nat) (x4_6 : List Int), Aside0 (impl_DecodeQuoted.j1 kq x4_6 (rdOf ByteArray.empty l0 x14_1) l0 (l0.length : Int) x14_1 = some (r1, r2)) ∧ Aside0 (kq ≤ k1) ∧ Aside0 (Kd.R (Kd.int .u8) 5 wc w.heap.size (fun _ => True) v4 x4_6) ∧ Aside0 (Below w.heap.size w wc))
      case first =>
       have H := HC7.out
       clear HC7
       by_cases c8 : x5_1 = true
       ·subst c8
        have H1 : (impl_DecodeQuoted.j1 k1 x4_1 (rdOf ByteArray.empty l0 x14_1) l0 (l0.length : Int) x14_1) = some (r1, r2) := by rw [if_pos rfl] at H; exact H
        clear H
        have H := H1
        clear H1
        have H' := Aside0.mk H
        clear H
        go_wp2
        go_meet
        case rel => exact ⟨_, (x4_1), H', ⟨by have := HK1.out; first | omega | exact Nat.le_refl _⟩, ⟨by (with_reducible repeat (first | apply Kd.R_alloc | apply Kd.R_drewN | apply Kd.R_drew)); exact HO_4.out⟩, ⟨by repeat (first | (with_reducible first | exact HB.out | apply below_alloc | apply pw_below_drewN | apply below_drew1) | exact HB.out)⟩⟩
       ·replace c8 := Bool.eq_false_iff.mpr c8
        subst c8
        have H1 : (if x4_1.length < 140737488355328 then (impl_DecodeQuoted.j1 k1 (x4_1 ++ [10]) (rdOf ByteArray.empty l0 x14_1) l0 (l0.length : Int) x14_1) else (none)) = some (r1, r2) := by rw [if_neg (show ¬ (false = true) by decide)] at H; exact H
        clear H
        have H := H1
        clear H1
        by_cases c9 : x4_1.length < 140737488355328
        ·rw [if_pos c9] at H
         have LMc9 := Aside0.mk c9
         clear c9
         obtain ⟨y162, hy162⟩ : ∃ y_ : List Int, y_ = (x4_1 ++ [10]) := ⟨_, rfl⟩
         replace H : (impl_DecodeQuoted.j1 k1 y162 (rdOf ByteArray.empty l0 x14_1) l0 (l0.length : Int) x14_1) = some (r1, r2) := by first | (rw [hy162]; with_reducible exact H) | (have H2_ := (Option.bind_some _ _).symm.trans H; rw [hy162]; with_reducible exact H2_) | (have H2_ := (Option.bind_some _ _).symm.trans H; with_reducible exact H2_) | with_reducible exact H | (rw [hy162]; exact H) | exact H
         have Ny162 := Aside0.mk hy162
         clear hy162
         have H' := Aside0.mk H
         clear H
         go_wp2_with (first | ((with_reducible refine gate_builtin (b := .append) (xs := #[.tmp 20, .tmp 21]) rfl ?_); (try (refine gate_guard (by rfl) ?_; dsimp only)); at_builtin; refine Kd.R_append (Kd.int .u8) (w0 := w) w.heap.size rfl (.tmp 20) (.tmp 21) 37 5 (.int .u8 0) 1 rfl Try.underlying37 info5 rfl (by decide) (by omega) u4 x4_1 10 [.int .u8 10] (fun _ => True) (fun _ => False) rfl rfl ?aP (fun _ hk => hk.elim) ?aF ?aO ?aB ?aS ?aL ?_; (case aP => exact rfl); (case aB => exact (by repeat (first | (with_reducible first | exact HB.out | apply below_alloc | apply pw_below_drewN | apply below_drew1) | exact HB.out))); (case aF => exact (fun _ _ => trivial)); (case aO => exact (by (with_reducible repeat (first | apply Kd.R_alloc | apply Kd.R_drewN | apply Kd.R_drew)); exact HO_4.out)); (case aS => exact (below_size (by repeat (first | (with_reducible first | exact HB.out | apply below_alloc | apply pw_below_drewN | apply below_drew1) | exact HB.out)))); (case aL => have := LMc9.out; omega); intro v163 w10 ho hb hg hat; rw [← Ny162.out] at ho; have n0_ := Aside0.mk (hb); have n1_ := Aside0.mk (ho); clear HB; clear HO_4; have HB := n0_; have HO164 := n1_; clear n0_ n1_; clear ho hb hg hat))
         go_meet
         case rel => exact ⟨_, (y162), H', ⟨by have := HK1.out; first | omega | exact Nat.le_refl _⟩, ⟨by (with_reducible repeat (first | apply Kd.R_alloc | apply Kd.R_drewN | apply Kd.R_drew)); exact HO164.out⟩, ⟨by repeat (first | (with_reducible first | exact HB.out | apply below_alloc | apply pw_below_drewN | apply below_drew1) | exact HB.out)⟩⟩
        ·rw [if_neg c9] at H
         exact absurd H (by simp)
      case rest =>
       clear HC7
       try clear c1
       try clear p1
       try clear q1
       try clear hx1
       try clear p2
       try clear c4
       try clear c4b0
       try clear c5
       try clear c5b0
       try clear c6
       try clear c6b0
       try clear c8
       try clear c9
       try clear hx161_0
       try clear p161
       try clear p2
       try clear q161
       obtain ⟨kq, x4_6, HA, HJ6, HO_4, HB⟩ := hcut
       cases kq with
       | zero => exact absurd HA.out (by simp [impl_DecodeQuoted.j1])
       | succ kj6 =>
        have H := HA.out
        clear HA
        simp only [impl_DecodeQuoted.j1] at H
        have H' := Aside0.mk H
        clear H
        go_wp2
        go_loopg [4, 5, 8] kj6 (fun kq v4 v5 v8 w' => ∃ (x4_3 : List Int) (x5_3 : Bool) (x8_3 : Int), v5 = .bool x5_3 ∧ v8 = .int .i64 x8_3 ∧ Aside0 (impl_DecodeQuoted.l1 kq x4_3 x5_3 (rdOf ByteArray.empty l0 x14_1) x8_3 l0 (l0.length : Int) x14_1 = some (r1, r2)) ∧ Aside0 (kq ≤ kj6) ∧ Aside0 (Kd.R (Kd.int .u8) 5 w' w.heap.size (fun _ => True) v4 x4_3) ∧ Aside0 (Below w.heap.size w w'))
        case atStart => exact ⟨(x4_6), (false), (0), (by first | rfl | (simp; done) | (simp [*]; done)), (by first | rfl | (simp; done) | (simp [*]; done)), H', ⟨Nat.le_refl _⟩, ⟨by (with_reducible repeat (first | apply Kd.R_alloc | apply Kd.R_drewN | apply Kd.R_drew)); exact HO_4.out⟩, ⟨by repeat (first | (with_reducible first | exact HB.out | apply below_alloc | apply pw_below_drewN | apply below_drew1) | exact HB.out)⟩⟩
        case round =>
         clear H'
         try clear c1
         try clear p1
         try clear q1
         try clear hx1
         try clear p2
         try clear c4
         try clear c4b0
         try clear c5
         try clear c5b0
         try clear c6
         try clear c6b0
         try clear c8
         try clear c9
         try clear hx161_0
         try clear p1
         try clear p161
         try clear p2
         try clear q1
         try clear q161
         obtain ⟨x4_3, x5_3, x8_3, rfl, rfl, HA, HK3, HO_4, HB⟩ := hrel
         cases gk with
         | zero => exact absurd HA.out (by simp [impl_DecodeQuoted.l1])
         | succ k3 =>
          have H := HA.out
          clear HA
          simp only [impl_DecodeQuoted.l1] at H
          by_cases c11 : x8_3 < ((rdOf ByteArray.empty l0 x14_1).size : Int)
          ·rw [if_pos c11] at H
           have c11b0 : decide (x8_3 < ((rdOf ByteArray.empty l0 x14_1).size : Int)) = true := decide_eq_true c11
           clear c11
           have HC12 := Aside0.mk H
           clear H
           go_upto_region 12 with (fail)
           go_cut [29] (fun v29 wc => ∃ (kq : Nat) (x29_11 : Bool), v29 = .bool x29_11 ∧ Aside0 (impl_DecodeQuoted.j3 kq x4_3 x5_3 (rdOf ByteArray.empty l0 x14_1) x8_3 l0 (l0.length : Int) x14_1 x29_11 = some (r1, r2)) ∧ Aside0 (kq ≤ k3) ∧ Aside0 (Kd.R (Kd.int .u8) 5 wc w.heap.size (fun _ => True) u4 x4_3) ∧ Aside0 (Below w.heap.size w wc))
           case first =>
            have H := HC12.out
            clear HC12
            by_cases c13 : 0 ≤ x8_3
            ·rw [if_pos c13] at H
             have c13b0 : decide (0 ≤ x8_3) = true := decide_eq_true c13
             clear c13
             (first | rw [c13b0] | (simp only [i64_w, i32_w]; rw [c13b0]) | skip)
             by_cases c15 : (bt (rdOf ByteArray.empty l0 x14_1) x8_3) = 61
             ·rw [if_pos c15] at H
              have c15b0 : ((bt (rdOf ByteArray.empty l0 x14_1) x8_3) == 61) = true := beq_iff_eq.mpr c15
              have c15b1 : ((bt (rdOf ByteArray.empty l0 x14_1) x8_3) != 61) = false := bne_eq_false_iff_eq.mpr c15
              clear c15
              have H' := Aside0.mk H
              clear H
              have p14 : 0 ≤ (x8_3 : Int) := of_decide_eq_true (by first | (with_reducible assumption) | assumption)
              have q14 : x8_3 < ((rdOf ByteArray.empty l0 x14_1).size : Int) := of_decide_eq_true (by first | (with_reducible assumption) | assumption)
              have hx14 := bt_at (rdOf ByteArray.empty l0 x14_1) x8_3
              replace p14 := eq_true p14
              replace q14 := eq_true q14
              go_wp2
              go_meet
              case rel => exact ⟨_, (((wrap64 (x8_3 + 1)) == ((rdOf ByteArray.empty l0 x14_1).size : Int))), (by first | rfl | (simp; done) | (simp [*]; done)), H', ⟨by have := HK1.out; have := HJ6.out; have := HK3.out; first | omega | exact Nat.le_refl _⟩, ⟨by (with_reducible repeat (first | apply Kd.R_alloc | apply Kd.R_drewN | apply Kd.R_drew)); exact HO_4.out⟩, ⟨by repeat (first | (with_reducible first | exact HB.out | apply below_alloc | apply pw_below_drewN | apply below_drew1) | exact HB.out)⟩⟩
             ·rw [if_neg c15] at H
              have c15b0 : ((bt (rdOf ByteArray.empty l0 x14_1) x8_3) == 61) = false := beq_eq_false_iff_ne.mpr c15
              have c15b1 : ((bt (rdOf ByteArray.empty l0 x14_1) x8_3) != 61) = true := bne_iff_ne.mpr c15
              have H' := Aside0.mk H
              clear H
              have p14 : 0 ≤ (x8_3 : Int) := of_decide_eq_true (by first | (with_reducible assumption) | assumption)
              have q14 : x8_3 < ((rdOf ByteArray.empty l0 x14_1).size : Int) := of_decide_eq_true (by first | (with_reducible assumption) | assumption)
              have hx14 := bt_at (rdOf ByteArray.empty l0 x14_1) x8_3
              replace p14 := eq_true p14
              replace q14 := eq_true q14
              go_wp2
              go_meet
              case rel => exact ⟨_, (false), (by first | rfl | (simp; done) | (simp [*]; done)), H', ⟨by have := HK1.out; have := HJ6.out; have := HK3.out; first | omega | exact Nat.le_refl _⟩, ⟨by (with_reducible repeat (first | apply Kd.R_alloc | apply Kd.R_drewN | apply Kd.R_drew)); exact HO_4.out⟩, ⟨by repeat (first | (with_reducible first | exact HB.out | apply below_alloc | apply pw_below_drewN | apply below_drew1) | exact HB.out)⟩⟩
            ·rw [if_neg c13] at H
             exact absurd H (by simp)
           case rest =>
            clear HC12
            try clear c1
            try clear p1
            try clear q1
            try clear hx1
            try clear p2
            try clear c4
            try clear c4b0
            try clear c5
            try clear c5b0
            try clear c6
            try clear c6b0
            try clear p6
            try clear c8
            try clear c9
            try clear c11
            try clear c11b0
            try clear c13
            try clear c13b0
            try clear c14
            try clear p14
            try clear q14
            try clear hx14
            try clear c15
            try clear c15b0
            try clear c15b1
            try clear hx161_0
            try clear p1
            try clear p14
            try clear p161
            try clear p2
            try clear q1
            try clear q14
            try clear q161
            obtain ⟨kq, x29_11, rfl, HA, HJ11, HO_4, HB⟩ := hcut
            cases kq with
            | zero => exact absurd HA.out (by simp [impl_DecodeQuoted.j3])
            | succ kj11 =>
             have H := HA.out
             clear HA
             simp only [impl_DecodeQuoted.j3] at H
             by_cases c16 : x29_11 = true
             ·subst c16
              have H1 : (impl_DecodeQuoted.l1 kj11 x4_3 true (rdOf ByteArray.empty l0 x14_1) (wrap64 (x8_3 + 1)) l0 (l0.length : Int) x14_1) = some (r1, r2) := by rw [if_pos rfl] at H; exact H
              clear H
              have H := H1
              clear H1
              have H' := Aside0.mk H
              clear H
              go_wp2
              go_roundg kj11
              case measure => have := HK1.out; have := HJ6.out; have := HK3.out; have := HJ11.out; omega
              case rel => exact ⟨(x4_3), (true), (wrap64 (x8_3 + 1)), (by first | rfl | (simp; done) | (simp [*]; done)), (by first | rfl | (simp; done) | (simp [*]; done)), H', ⟨by have := HK1.out; have := HJ6.out; have := HK3.out; have := HJ11.out; omega⟩, ⟨by (with_reducible repeat (first | apply Kd.R_alloc | apply Kd.R_drewN | apply Kd.R_drew)); exact HO_4.out⟩, ⟨by repeat (first | (with_reducible first | exact HB.out | apply below_alloc | apply pw_below_drewN | apply below_drew1) | exact HB.out)⟩⟩
             ·replace c16 := Bool.eq_false_iff.mpr c16
              subst c16
              have H1 : (if 0 ≤ x8_3 then (if x8_3 < ((rdOf ByteArray.empty l0 x14_1).size : Int) then (if (bt (rdOf ByteArray.empty l0 x14_1) x8_3) = 61 then (if x8_3 ≤ ((rdOf ByteArray.empty l0 x14_1).size : Int) then ((impl_hexOf.f kj11 ((rdOf ByteArray.empty l0 x14_1).extract (x8_3 : Int).toNat (rdOf ByteArray.empty l0 x14_1).size)).bind fun bt165 => (if bt165.2 = true then (if x4_3.length < 140737488355328 then (impl_DecodeQuoted.l1 kj11 (x4_3 ++ [bt165.1]) x5_3 (rdOf ByteArray.empty l0 x14_1) (wrap64 ((wrap64 (x8_3 + 2)) + 1)) l0 (l0.length : Int) x14_1) else (none)) else (some ((⟨#[]⟩ : ByteArray), false)))) else (none)) else (if (bt (rdOf ByteArray.empty l0 x14_1) x8_3) ≥ 32 then (if (bt (rdOf ByteArray.empty l0 x14_1) x8_3) ≤ 126 then (if x4_3.length < 140737488355328 then (impl_DecodeQuoted.l1 kj11 (x4_3 ++ [bt (rdOf ByteArray.empty l0 x14_1) x8_3]) x5_3 (rdOf ByteArray.empty l0 x14_1) (wrap64 (x8_3 + 1)) l0 (l0.length : Int) x14_1) else (none)) else (some ((⟨#[]⟩ : ByteArray), false))) else (some ((⟨#[]⟩ : ByteArray), false)))) else (none)) else (none)) = some (r1, r2) := by rw [if_neg (show ¬ (false = true) by decide)] at H; exact H
              clear H
              have H := H1
              clear H1
              by_cases c17 : 0 ≤ x8_3
              ·rw [if_pos c17] at H
               have c17b0 : decide (0 ≤ x8_3) = true := decide_eq_true c17
               clear c17
               by_cases c18 : x8_3 < ((rdOf ByteArray.empty l0 x14_1).size : Int)
               ·rw [if_pos c18] at H
                have c18b0 : decide (x8_3 < ((rdOf ByteArray.empty l0 x14_1).size : Int)) = true := decide_eq_true c18
                clear c18
                by_cases c20 : (bt (rdOf ByteArray.empty l0 x14_1) x8_3) = 61
                ·rw [if_pos c20] at H
                 have c20b0 : ((bt (rdOf ByteArray.empty l0 x14_1) x8_3) == 61) = true := beq_iff_eq.mpr c20
                 have c20b1 : ((bt (rdOf ByteArray.empty l0 x14_1) x8_3) != 61) = false := bne_eq_false_iff_eq.mpr c20
                 clear c20
                 have c21b0 := eq_true (of_decide_eq_true (by first | (with_reducible assumption) | assumption) : 0 ≤ x8_3)
                 by_cases c22 : x8_3 ≤ ((rdOf ByteArray.empty l0 x14_1).size : Int)
                 ·rw [if_pos c22] at H
                  have c22b0 := eq_true c22
                  have c22b1 : decide (x8_3 ≤ ((rdOf ByteArray.empty l0 x14_1).size : Int)) = true := decide_eq_true c22
                  clear c22
                  replace H := Option.bind_eq_some_iff.mp H
                  obtain ⟨⟨t165, t166⟩, A230, H⟩ := H
                  replace H : (if t166 = true then (if x4_3.length < 140737488355328 then (impl_DecodeQuoted.l1 kj11 (x4_3 ++ [t165]) x5_3 (rdOf ByteArray.empty l0 x14_1) (wrap64 ((wrap64 (x8_3 + 2)) + 1)) l0 (l0.length : Int) x14_1) else (none)) else (some ((⟨#[]⟩ : ByteArray), false))) = some (r1, r2) := H
                  have A23 := Aside0.mk A230
                  clear A230
                  by_cases c24 : t166 = true
                  ·subst c24
                   have H1 : (if x4_3.length < 140737488355328 then (impl_DecodeQuoted.l1 kj11 (x4_3 ++ [t165]) x5_3 (rdOf ByteArray.empty l0 x14_1) (wrap64 ((wrap64 (x8_3 + 2)) + 1)) l0 (l0.length : Int) x14_1) else (none)) = some (r1, r2) := by rw [if_pos rfl] at H; exact H
                   clear H
                   have H := H1
                   clear H1
                   by_cases c25 : x4_3.length < 140737488355328
                   ·rw [if_pos c25] at H
                    have LMc25 := Aside0.mk c25
                    clear c25
                    obtain ⟨y167, hy167⟩ : ∃ y_ : List Int, y_ = (x4_3 ++ [t165]) := ⟨_, rfl⟩
                    replace H : (impl_DecodeQuoted.l1 kj11 y167 x5_3 (rdOf ByteArray.empty l0 x14_1) (wrap64 ((wrap64 (x8_3 + 2)) + 1)) l0 (l0.length : Int) x14_1) = some (r1, r2) := by first | (rw [hy167]; with_reducible exact H) | (have H2_ := (Option.bind_some _ _).symm.trans H; rw [hy167]; with_reducible exact H2_) | (have H2_ := (Option.bind_some _ _).symm.trans H; with_reducible exact H2_) | with_reducible exact H | (rw [hy167]; exact H) | exact H
                    have Ny167 := Aside0.mk hy167
                    clear hy167
                    have H' := Aside0.mk H
                    clear H
                    have p19 : 0 ≤ (x8_3 : Int) := of_decide_eq_true (by first | (with_reducible assumption) | assumption)
                    have q19 : x8_3 < ((rdOf ByteArray.empty l0 x14_1).size : Int) := of_decide_eq_true (by first | (with_reducible assumption) | assumption)
                    have hx19 := bt_at (rdOf ByteArray.empty l0 x14_1) x8_3
                    replace p19 := eq_true p19
                    replace q19 := eq_true q19
                    go_wp2_with (first | ((with_reducible refine gate_callee (f := 24) rfl ?_); refine goesL_ (some 50) rfl rfl Try.func24 (by kernel_rfl) rfl #[.string ((rdOf ByteArray.empty l0 x14_1).extract (x8_3 : Int).toNat (rdOf ByteArray.empty l0 x14_1).size)] rfl (by (try simp only [List.map_toArray, List.map_cons, List.map_nil]); first | done | rfl | (simp only [List.length_drop, List.length_take]; rfl)) ?_; (with_reducible refine (impl_hexOf.calls kj11 ((rdOf ByteArray.empty l0 x14_1).extract (x8_3 : Int).toNat (rdOf ByteArray.empty l0 x14_1).size) t165 true _ A23.out).mono ?_); rintro e w' ⟨rfl, ⟨nd, rfl⟩⟩; refine ⟨_, rfl, ?_⟩) | ((with_reducible refine gate_builtin (b := .append) (xs := #[.tmp 55, .tmp 57]) rfl ?_); (try (refine gate_guard (by rfl) ?_; dsimp only)); at_builtin; refine Kd.R_append (Kd.int .u8) (w0 := w) w.heap.size rfl (.tmp 55) (.tmp 57) 37 5 (.int .u8 0) 1 rfl Try.underlying37 info5 rfl (by decide) (by omega) u4 x4_3 t165 [.int .u8 t165] (fun _ => True) (fun _ => False) rfl rfl ?aP (fun _ hk => hk.elim) ?aF ?aO ?aB ?aS ?aL ?_; (case aP => exact rfl); (case aB => exact (by repeat (first | (with_reducible first | exact HB.out | apply below_alloc | apply pw_below_drewN | apply below_drew1) | exact HB.out))); (case aF => exact (fun _ _ => trivial)); (case aO => exact (by (with_reducible repeat (first | apply Kd.R_alloc | apply Kd.R_drewN | apply Kd.R_drew)); exact HO_4.out)); (case aS => exact (below_size (by repeat (first | (with_reducible first | exact HB.out | apply below_alloc | apply pw_below_drewN | apply below_drew1) | exact HB.out)))); (case aL => have := LMc25.out; omega); intro v168 w26 ho hb hg hat; rw [← Ny167.out] at ho; have n0_ := Aside0.mk (hb); have n1_ := Aside0.mk (ho); clear HB; clear HO_4; have HB := n0_; have HO169 := n1_; clear n0_ n1_; clear ho hb hg hat))
                    go_roundg kj11
                    case measure => have := HK1.out; have := HJ6.out; have := HK3.out; have := HJ11.out; omega
                    case rel => exact ⟨(y167), (x5_3), (wrap64 ((wrap64 (x8_3 + 2)) + 1)), (by first | rfl | (simp; done) | (simp [*]; done)), (by first | rfl | (simp; done) | (simp [*]; done)), H', ⟨by have := HK1.out; have := HJ6.out; have := HK3.out; have := HJ11.out; omega⟩, ⟨by (with_reducible repeat (first | apply Kd.R_alloc | apply Kd.R_drewN | apply Kd.R_drew)); exact HO169.out⟩, ⟨by repeat (first | (with_reducible first | exact HB.out | apply below_alloc | apply pw_below_drewN | apply below_drew1) | exact HB.out)⟩⟩
                   ·rw [if_neg c25] at H
                    exact absurd H (by simp)
                  ·replace c24 := Bool.eq_false_iff.mpr c24
                   subst c24
                   have H1 : (some ((⟨#[]⟩ : ByteArray), false)) = some (r1, r2) := by rw [if_neg (show ¬ (false = true) by decide)] at H; exact H
                   clear H
                   have H := H1
                   clear H1
                   simp only [Option.some.injEq, Prod.mk.injEq] at H
                   obtain ⟨rfl, rfl⟩ := H
                   have p19 : 0 ≤ (x8_3 : Int) := of_decide_eq_true (by first | (with_reducible assumption) | assumption)
                   have q19 : x8_3 < ((rdOf ByteArray.empty l0 x14_1).size : Int) := of_decide_eq_true (by first | (with_reducible assumption) | assumption)
                   have hx19 := bt_at (rdOf ByteArray.empty l0 x14_1) x8_3
                   replace p19 := eq_true p19
                   replace q19 := eq_true q19
                   go_wp2_with (first | ((with_reducible refine gate_callee (f := 24) rfl ?_); refine goesL_ (some 50) rfl rfl Try.func24 (by kernel_rfl) rfl #[.string ((rdOf ByteArray.empty l0 x14_1).extract (x8_3 : Int).toNat (rdOf ByteArray.empty l0 x14_1).size)] rfl (by (try simp only [List.map_toArray, List.map_cons, List.map_nil]); first | done | rfl | (simp only [List.length_drop, List.length_take]; rfl)) ?_; (with_reducible refine (impl_hexOf.calls kj11 ((rdOf ByteArray.empty l0 x14_1).extract (x8_3 : Int).toNat (rdOf ByteArray.empty l0 x14_1).size) t165 false _ A23.out).mono ?_); rintro e w' ⟨rfl, ⟨nd, rfl⟩⟩; refine ⟨_, rfl, ?_⟩))
                   go_ret2
                   exact ⟨by first | rfl | (simp [errW_none, errW_some] <;> rfl) | (simp [*, errW_none, errW_some] <;> rfl), by repeat (first | (with_reducible first | exact HB.out | apply below_alloc | apply pw_below_drewN | apply below_drew1) | exact HB.out)⟩
                 ·rw [if_neg c22] at H
                  exact absurd H (by simp)
                ·rw [if_neg c20] at H
                 have c20b0 : ((bt (rdOf ByteArray.empty l0 x14_1) x8_3) == 61) = false := beq_eq_false_iff_ne.mpr c20
                 have c20b1 : ((bt (rdOf ByteArray.empty l0 x14_1) x8_3) != 61) = true := bne_iff_ne.mpr c20
                 by_cases c28 : (bt (rdOf ByteArray.empty l0 x14_1) x8_3) ≥ 32
                 ·rw [if_pos c28] at H
                  have c28b0 : decide (32 ≤ (bt (rdOf ByteArray.empty l0 x14_1) x8_3)) = true := decide_eq_true c28
                  clear c28
                  by_cases c30 : (bt (rdOf ByteArray.empty l0 x14_1) x8_3) ≤ 126
                  ·rw [if_pos c30] at H
                   have c30b0 : decide ((bt (rdOf ByteArray.empty l0 x14_1) x8_3) ≤ 126) = true := decide_eq_true c30
                   clear c30
                   by_cases c32 : x4_3.length < 140737488355328
                   ·rw [if_pos c32] at H
                    have LMc32 := Aside0.mk c32
                    clear c32
                    obtain ⟨y170, hy170⟩ : ∃ y_ : List Int, y_ = (x4_3 ++ [bt (rdOf ByteArray.empty l0 x14_1) x8_3]) := ⟨_, rfl⟩
                    replace H : (impl_DecodeQuoted.l1 kj11 y170 x5_3 (rdOf ByteArray.empty l0 x14_1) (wrap64 (x8_3 + 1)) l0 (l0.length : Int) x14_1) = some (r1, r2) := by first | (rw [hy170]; with_reducible exact H) | (have H2_ := (Option.bind_some _ _).symm.trans H; rw [hy170]; with_reducible exact H2_) | (have H2_ := (Option.bind_some _ _).symm.trans H; with_reducible exact H2_) | with_reducible exact H | (rw [hy170]; exact H) | exact H
                    have Ny170 := Aside0.mk hy170
                    clear hy170
                    have H' := Aside0.mk H
                    clear H
                    have p19 : 0 ≤ (x8_3 : Int) := of_decide_eq_true (by first | (with_reducible assumption) | assumption)
                    have q19 : x8_3 < ((rdOf ByteArray.empty l0 x14_1).size : Int) := of_decide_eq_true (by first | (with_reducible assumption) | assumption)
                    have hx19 := bt_at (rdOf ByteArray.empty l0 x14_1) x8_3
                    replace p19 := eq_true p19
                    replace q19 := eq_true q19
                    have p27 : 0 ≤ (x8_3 : Int) := of_decide_eq_true (by first | (with_reducible assumption) | assumption)
                    have q27 : x8_3 < ((rdOf ByteArray.empty l0 x14_1).size : Int) := of_decide_eq_true (by first | (with_reducible assumption) | assumption)
                    have hx27 := bt_at (rdOf ByteArray.empty l0 x14_1) x8_3
                    replace p27 := eq_true p27
                    replace q27 := eq_true q27
                    have p29 : 0 ≤ (x8_3 : Int) := of_decide_eq_true (by first | (with_reducible assumption) | assumption)
                    have q29 : x8_3 < ((rdOf ByteArray.empty l0 x14_1).size : Int) := of_decide_eq_true (by first | (with_reducible assumption) | assumption)
                    have hx29 := bt_at (rdOf ByteArray.empty l0 x14_1) x8_3
                    replace p29 := eq_true p29
                    replace q29 := eq_true q29
                    have p31 : 0 ≤ (x8_3 : Int) := of_decide_eq_true (by first | (with_reducible assumption) | assumption)
                    have q31 : x8_3 < ((rdOf ByteArray.empty l0 x14_1).size : Int) := of_decide_eq_true (by first | (with_reducible assumption) | assumption)
                    have hx31 := bt_at (rdOf ByteArray.empty l0 x14_1) x8_3
                    replace p31 := eq_true p31
                    replace q31 := eq_true q31
                    go_wp2_with (first | ((with_reducible refine gate_builtin (b := .append) (xs := #[.tmp 72, .tmp 76]) rfl ?_); (try (refine gate_guard (by rfl) ?_; dsimp only)); at_builtin; refine Kd.R_append (Kd.int .u8) (w0 := w) w.heap.size rfl (.tmp 72) (.tmp 76) 37 5 (.int .u8 0) 1 rfl Try.underlying37 info5 rfl (by decide) (by omega) u4 x4_3 (bt (rdOf ByteArray.empty l0 x14_1) x8_3) [.int .u8 (bt (rdOf ByteArray.empty l0 x14_1) x8_3)] (fun _ => True) (fun _ => False) rfl rfl ?aP (fun _ hk => hk.elim) ?aF ?aO ?aB ?aS ?aL ?_; (case aP => exact rfl); (case aB => exact (by repeat (first | (with_reducible first | exact HB.out | apply below_alloc | apply pw_below_drewN | apply below_drew1) | exact HB.out))); (case aF => exact (fun _ _ => trivial)); (case aO => exact (by (with_reducible repeat (first | apply Kd.R_alloc | apply Kd.R_drewN | apply Kd.R_drew)); exact HO_4.out)); (case aS => exact (below_size (by repeat (first | (with_reducible first | exact HB.out | apply below_alloc | apply pw_below_drewN | apply below_drew1) | exact HB.out)))); (case aL => have := LMc32.out; omega); intro v171 w33 ho hb hg hat; rw [← Ny170.out] at ho; have n0_ := Aside0.mk (hb); have n1_ := Aside0.mk (ho); clear HB; clear HO_4; have HB := n0_; have HO172 := n1_; clear n0_ n1_; clear ho hb hg hat))
                    go_roundg kj11
                    case measure => have := HK1.out; have := HJ6.out; have := HK3.out; have := HJ11.out; omega
                    case rel => exact ⟨(y170), (x5_3), (wrap64 (x8_3 + 1)), (by first | rfl | (simp; done) | (simp [*]; done)), (by first | rfl | (simp; done) | (simp [*]; done)), H', ⟨by have := HK1.out; have := HJ6.out; have := HK3.out; have := HJ11.out; omega⟩, ⟨by (with_reducible repeat (first | apply Kd.R_alloc | apply Kd.R_drewN | apply Kd.R_drew)); exact HO172.out⟩, ⟨by repeat (first | (with_reducible first | exact HB.out | apply below_alloc | apply pw_below_drewN | apply below_drew1) | exact HB.out)⟩⟩
                   ·rw [if_neg c32] at H
                    exact absurd H (by simp)
                  ·rw [if_neg c30] at H
                   have c30b0 : decide ((bt (rdOf ByteArray.empty l0 x14_1) x8_3) ≤ 126) = false := decide_eq_false c30
                   clear c30
                   simp only [Option.some.injEq, Prod.mk.injEq] at H
                   obtain ⟨rfl, rfl⟩ := H
                   have p19 : 0 ≤ (x8_3 : Int) := of_decide_eq_true (by first | (with_reducible assumption) | assumption)
                   have q19 : x8_3 < ((rdOf ByteArray.empty l0 x14_1).size : Int) := of_decide_eq_true (by first | (with_reducible assumption) | assumption)
                   have hx19 := bt_at (rdOf ByteArray.empty l0 x14_1) x8_3
                   replace p19 := eq_true p19
                   replace q19 := eq_true q19
                   have p27 : 0 ≤ (x8_3 : Int) := of_decide_eq_true (by first | (with_reducible assumption) | assumption)
                   have q27 : x8_3 < ((rdOf ByteArray.empty l0 x14_1).size : Int) := of_decide_eq_true (by first | (with_reducible assumption) | assumption)
                   have hx27 := bt_at (rdOf ByteArray.empty l0 x14_1) x8_3
                   replace p27 := eq_true p27
                   replace q27 := eq_true q27
                   have p29 : 0 ≤ (x8_3 : Int) := of_decide_eq_true (by first | (with_reducible assumption) | assumption)
                   have q29 : x8_3 < ((rdOf ByteArray.empty l0 x14_1).size : Int) := of_decide_eq_true (by first | (with_reducible assumption) | assumption)
                   have hx29 := bt_at (rdOf ByteArray.empty l0 x14_1) x8_3
                   replace p29 := eq_true p29
                   replace q29 := eq_true q29
                   go_wp2
                   go_ret2
                   exact ⟨by first | rfl | (simp [errW_none, errW_some] <;> rfl) | (simp [*, errW_none, errW_some] <;> rfl), by repeat (first | (with_reducible first | exact HB.out | apply below_alloc | apply pw_below_drewN | apply below_drew1) | exact HB.out)⟩
                 ·rw [if_neg c28] at H
                  have c28b0 : decide (32 ≤ (bt (rdOf ByteArray.empty l0 x14_1) x8_3)) = false := decide_eq_false c28
                  clear c28
                  simp only [Option.some.injEq, Prod.mk.injEq] at H
                  obtain ⟨rfl, rfl⟩ := H
                  have p19 : 0 ≤ (x8_3 : Int) := of_decide_eq_true (by first | (with_reducible assumption) | assumption)
                  have q19 : x8_3 < ((rdOf ByteArray.empty l0 x14_1).size : Int) := of_decide_eq_true (by first | (with_reducible assumption) | assumption)
                  have hx19 := bt_at (rdOf ByteArray.empty l0 x14_1) x8_3
                  replace p19 := eq_true p19
                  replace q19 := eq_true q19
                  have p27 : 0 ≤ (x8_3 : Int) := of_decide_eq_true (by first | (with_reducible assumption) | assumption)
                  have q27 : x8_3 < ((rdOf ByteArray.empty l0 x14_1).size : Int) := of_decide_eq_true (by first | (with_reducible assumption) | assumption)
                  have hx27 := bt_at (rdOf ByteArray.empty l0 x14_1) x8_3
                  replace p27 := eq_true p27
                  replace q27 := eq_true q27
                  go_wp2
                  go_ret2
                  exact ⟨by first | rfl | (simp [errW_none, errW_some] <;> rfl) | (simp [*, errW_none, errW_some] <;> rfl), by repeat (first | (with_reducible first | exact HB.out | apply below_alloc | apply pw_below_drewN | apply below_drew1) | exact HB.out)⟩
               ·rw [if_neg c18] at H
                exact absurd H (by simp)
              ·rw [if_neg c17] at H
               exact absurd H (by simp)
          ·rw [if_neg c11] at H
           have c11b0 : decide (x8_3 < ((rdOf ByteArray.empty l0 x14_1).size : Int)) = false := decide_eq_false c11
           clear c11
           have H' := Aside0.mk H
           clear H
           go_wp2
           go_roundg k3
           case measure => have := HK1.out; have := HJ6.out; have := HK3.out; omega
           case rel => exact ⟨(x4_3), (x5_3), (wrap64 (x14_1 + 1)), (by first | rfl | (simp; done) | (simp [*]; done)), (by first | rfl | (simp; done) | (simp [*]; done)), H', ⟨by have := HK1.out; have := HJ6.out; have := HK3.out; omega⟩, ⟨by (with_reducible repeat (first | apply Kd.R_alloc | apply Kd.R_drewN | apply Kd.R_drew)); exact HO_4.out⟩, ⟨by repeat (first | (with_reducible first | exact HB.out | apply below_alloc | apply pw_below_drewN | apply below_drew1) | exact HB.out)⟩⟩
     ·rw [if_neg c6] at H
      exact absurd H (by simp)
    ·rw [if_neg c5] at H
     exact absurd H (by simp)
   ·rw [if_neg c4] at H
    have c4b0 : decide (x14_1 < (l0.length : Int)) = false := decide_eq_false c4
    clear c4
    by_cases c34 : x5_1 = true
    ·subst c34
     have H1 : (some ((⟨#[]⟩ : ByteArray), false)) = some (r1, r2) := by rw [if_pos rfl] at H; exact H
     clear H
     have H := H1
     clear H1
     simp only [Option.some.injEq, Prod.mk.injEq] at H
     obtain ⟨rfl, rfl⟩ := H
     go_wp2
     go_ret2
     exact ⟨by first | rfl | (simp [errW_none, errW_some] <;> rfl) | (simp [*, errW_none, errW_some] <;> rfl), by repeat (first | (with_reducible first | exact HB.out | apply below_alloc | apply pw_below_drewN | apply below_drew1) | exact HB.out)⟩
    ·replace c34 := Bool.eq_false_iff.mpr c34
     subst c34
     have H1 : (if (x4_1.length : Int) > 300 then (some ((⟨#[]⟩ : ByteArray), false)) else (some (strOfNums x4_1, true))) = some (r1, r2) := by rw [if_neg (show ¬ (false = true) by decide)] at H; exact H
     clear H
     have H := H1
     clear H1
     by_cases c35 : (x4_1.length : Int) > 300
     ·rw [if_pos c35] at H
      have c35b0 : decide (300 < (x4_1.length : Int)) = true := decide_eq_true c35
      have c35b1 : decide (300 < x4_1.length) = true := decide_eq_true (by omega)
      clear c35
      simp only [Option.some.injEq, Prod.mk.injEq] at H
      obtain ⟨rfl, rfl⟩ := H
      obtain ⟨Ao36, co36, eo36⟩ := Kd.R_slice HO_4.out
      subst eo36
      go_wp2
      go_ret2
      exact ⟨by first | rfl | (simp [errW_none, errW_some] <;> rfl) | (simp [*, errW_none, errW_some] <;> rfl), by repeat (first | (with_reducible first | exact HB.out | apply below_alloc | apply pw_below_drewN | apply below_drew1) | exact HB.out)⟩
     ·rw [if_neg c35] at H
      have c35b0 : decide (300 < (x4_1.length : Int)) = false := decide_eq_false c35
      have c35b1 : decide (300 < x4_1.length) = false := decide_eq_false (by omega)
      clear c35
      simp only [Option.some.injEq, Prod.mk.injEq] at H
      obtain ⟨rfl, rfl⟩ := H
      obtain ⟨Ao37, co37, eo37⟩ := Kd.R_slice HO_4.out
      subst eo37
      have hcv38 := own_string (P := Try.prog) Try.underlying37 Try.underlying5 Try.underlying9 (Kd.own_of_R HO_4.out)
      go_wp2
      go_ret2
      exact ⟨by first | rfl | (simp [errW_none, errW_some] <;> rfl) | (simp [*, errW_none, errW_some] <;> rfl), by repeat (first | (with_reducible first | exact HB.out | apply below_alloc | apply pw_below_drewN | apply below_drew1) | exact HB.out)⟩

/-! ### strings_Count: function 26, by the shelf's contract, one byte -/
def strings_Count.f (a0 : ByteArray) (a1 : ByteArray) : Option (Int) := if a1.size = 1 then some ((Lib.countByte a0.data.toList (a1.data.toList.getD 0 0) : Nat) : Int) else none
theorem strings_Count.calls (a0 : ByteArray) (a1 : ByteArray) (r : Int) (w : World) (h : strings_Count.f a0 a1 = some r) :
  Calls Try.prog 26 #[.string a0, .string a1] w fun e w' => e = .returned (.int .i64 r) ∧ Drawn0 w w' := by
 unfold strings_Count.f at h
 by_cases hb : a1.size = 1
 ·rw [if_pos hb] at h
  obtain rfl := Option.some.inj h
  obtain ⟨c, rfl⟩ : ∃ c, a1 = ⟨#[c]⟩ := by
   obtain ⟨⟨l⟩⟩ := a1
   match l, hb with
   | [c], _ => exact ⟨c, rfl⟩
  refine (Go.Proofs.Try.strings_Count_one a0 c w).mono ?_
  rintro e w' ⟨he, hw⟩
  exact ⟨he, by rw [hw]; exact Drawn0.refl _⟩
 ·rw [if_neg hb] at h
  cases h

end Go.Proofs.Ytdkgbemlfajhcaa.PFnExactDecodeBytes
