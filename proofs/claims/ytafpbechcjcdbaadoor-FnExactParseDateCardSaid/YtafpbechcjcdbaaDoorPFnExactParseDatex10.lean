-- Written by a program of this session (wip/tool/myprint.py) out of the translation.
import Derived.Test.YtafpbechcjcdbaaDoorPFnExactParseDatex0
import Derived.Test.YtafpbechcjcdbaaDoorPFnExactParseDatex9
namespace Go.Proofs.YtafpbechcjcdbaaDoor.PFnExactParseDate
open Go.RowKit Go.Proofs.YtafpbechcjcdbaaDoorW.PrintWords Go.Proofs.YtafpbechcjcdbaaDoorW.PrintLast Go.Proofs.YtafpbechcjcdbaaDoorW.PrintMore
open Go.Proofs.YtafpbechcjcdbaaDoorW.PrintWords renaming blk_cell → Ba, blk_frozen → Bb, pw_below_drewN → Bc, below_drew1 → Bd, below_alloc → Be, blk_drewN → Bf, blk_alloc → Bg, blk_drew → Bh
attribute [local go_sem] max2_int min2_int max_two min_two max_three min_three max_four min_four   -- for this text's walks alone
set_option linter.unusedVariables false
set_option linter.unusedSimpArgs false

/-! ### spec_l4Digits: function 44 -/
mutual
def spec_l4Digits.l0 : Nat → ByteArray → Int → Int → Int → Int → Option (Int × Bool)
 | 0, _, _, _, _, _ => none
 | k + 1, x0, x1, x2, x8, x9 => if x9 < (x0.size : Int) then (spec_l4Digits.j1 k x0 x1 x2 x8 x9 (decide (x9 ≤ x2))) else (spec_l4Digits.j1 k x0 x1 x2 x8 x9 false)
def spec_l4Digits.j1 : Nat → ByteArray → Int → Int → Int → Int → Bool → Option (Int × Bool)
 | 0, _, _, _, _, _, _ => none
 | k + 1, x0, x1, x2, x8, x9, x18 => if x18 = true then (if 0 ≤ x9 then (if x9 < (x0.size : Int) then (if (bt x0 x9) < 48 then (some (0, false)) else (if (bt x0 x9) > 57 then (some (0, false)) else (spec_l4Digits.l0 k x0 x1 x2 (wrap64 ((wrap64 (x8 * 10)) + (((bt x0 x9) - 48) % 256))) (wrap64 (x9 + 1))))) else (none)) else (none)) else (if (x0.size : Int) ≥ x1 then (some (x8, decide ((x0.size : Int) ≤ x2))) else (some (x8, false)))
end
def spec_l4Digits.f (k : Nat) (a0 : ByteArray) (a1 : Int) (a2 : Int) : Option (Int × Bool) := spec_l4Digits.l0 k a0 a1 a2 0 0
theorem spec_l4Digits.mono_l : ∀ k, (∀ y0 y1 y2 y3 y4, LeO (spec_l4Digits.l0 k y0 y1 y2 y3 y4) (spec_l4Digits.l0 (k + 1) y0 y1 y2 y3 y4)) ∧ (∀ y0 y1 y2 y3 y4 y5, LeO (spec_l4Digits.j1 k y0 y1 y2 y3 y4 y5) (spec_l4Digits.j1 (k + 1) y0 y1 y2 y3 y4 y5))
 | 0 => ⟨fun _ _ _ _ _ r h => by simp [spec_l4Digits.l0] at h, fun _ _ _ _ _ _ r h => by simp [spec_l4Digits.j1] at h⟩
 | k + 1 => by
  obtain ⟨ih0, ih1⟩ := spec_l4Digits.mono_l k
  refine ⟨?_, ?_⟩
  ·intro y0 y1 y2 y3 y4
   unfold spec_l4Digits.l0
   repeat' first
   | (with_reducible exact ih0 _ _ _ _ _)
   | (with_reducible exact ih1 _ _ _ _ _ _)
   | (with_reducible exact LeO.refl _)
   | (with_reducible exact LeO.none _)
   | (with_reducible refine LeO.ite ?_ ?_)
   | (with_reducible refine LeO.bind ?_ (fun _ => ?_))
  intro y0 y1 y2 y3 y4 y5
  unfold spec_l4Digits.j1
  repeat' first
  | (with_reducible exact ih0 _ _ _ _ _)
  | (with_reducible exact ih1 _ _ _ _ _ _)
  | (with_reducible exact LeO.refl _)
  | (with_reducible exact LeO.none _)
  | (with_reducible refine LeO.ite ?_ ?_)
  | (with_reducible refine LeO.bind ?_ (fun _ => ?_))
theorem spec_l4Digits.mono : ∀ a0 a1 a2 k, LeO (spec_l4Digits.f k a0 a1 a2) (spec_l4Digits.f (k + 1) a0 a1 a2) := by
 intro a0 a1 a2 k
 obtain ⟨ih0, ih1⟩ := spec_l4Digits.mono_l k
 unfold spec_l4Digits.f
 repeat' first
   | (with_reducible exact ih0 _ _ _ _ _)
   | (with_reducible exact ih1 _ _ _ _ _ _)
   | (with_reducible exact LeO.refl _)
   | (with_reducible exact LeO.none _)
   | (with_reducible refine LeO.ite ?_ ?_)
   | (with_reducible refine LeO.bind ?_ (fun _ => ?_))
set_option maxHeartbeats 8000000 in
set_option maxRecDepth 100000 in
theorem spec_l4Digits.calls (k : Nat) (a0 : ByteArray) (a1 : Int) (a2 : Int) (r1 : Int) (r2 : Bool) (w : World) (h : spec_l4Digits.f k a0 a1 a2 = some (r1, r2)) :
  Calls Tryd.prog 44 #[.string a0, .int .i64 a1, .int .i64 a2] w fun e w' => e = .returned (.tuple #[.int .i64 r1, .bool r2]) ∧ Drawn0 w w' := by
 have H : (spec_l4Digits.l0 k a0 a1 a2 0 0) = some (r1, r2) := h
 clear h
 have H' := Aside0.mk H
 clear H
 go_enter Tryd.func44, Tryd.ntmps44
 go_wp2
 go_loopg [8, 9] k (fun kq v8 v9 w' => ∃ (x8_1 : Int) (x9_1 : Int), v8 = .int .i64 x8_1 ∧ v9 = .int .i64 x9_1 ∧ Aside0 (spec_l4Digits.l0 kq a0 a1 a2 x8_1 x9_1 = some (r1, r2)) ∧ Aside0 (kq ≤ k) ∧ Drawn0 w w')
 case atStart => exact ⟨(0), (0), (by first | rfl | (simp; done) | (simp [*]; done)), (by first | rfl | (simp; done) | (simp [*]; done)), H', ⟨Nat.le_refl _⟩, by repeat (first | exact Drawn0.refl _ | apply Drawn0.step)⟩
 case round =>
  clear H'
  try clear p2
  obtain ⟨x8_1, x9_1, rfl, rfl, HA, HK1, ⟨m1, rfl⟩⟩ := hrel
  cases gk with
  | zero => exact absurd HA.out (by simp [spec_l4Digits.l0])
  | succ k1 =>
   have H := HA.out; clear HA
   simp only [spec_l4Digits.l0] at H
   have HC4 := Aside0.mk H; clear H
   go_upto_region 3 with (fail)
   go_cut [18] (fun v18 wc => ∃ (kq : Nat) (x18_3 : Bool), v18 = .bool x18_3 ∧ Aside0 (spec_l4Digits.j1 kq a0 a1 a2 x8_1 x9_1 x18_3 = some (r1, r2)) ∧ Aside0 (kq ≤ k1) ∧ Drawn0 w wc)
   case first =>
    have H := HC4.out; clear HC4
    by_cases c5 : x9_1 < (a0.size : Int)
    ·rw [if_pos c5] at H
     have c5b0 : decide (x9_1 < (a0.size : Int)) = true := decide_eq_true c5
     clear c5
     (first | rw [c5b0] | (simp only [i64_w, i32_w]; rw [c5b0]) | skip)
     have H' := Aside0.mk H
     clear H
     go_wp2
     go_meet
     case rel => exact ⟨_, (decide (x9_1 ≤ a2)), (by first | rfl | (simp; done) | (simp [*]; done)), H', ⟨by have := HK1.out; first | omega | exact Nat.le_refl _⟩, by repeat (first | exact Drawn0.refl _ | apply Drawn0.step)⟩
    rw [if_neg c5] at H
    have c5b0 : decide (x9_1 < (a0.size : Int)) = false := decide_eq_false c5
    clear c5
    (first | rw [c5b0] | (simp only [i64_w, i32_w]; rw [c5b0]) | skip)
    have H' := Aside0.mk H
    clear H
    go_wp2
    go_meet
    case rel => exact ⟨_, (false), (by first | rfl | (simp; done) | (simp [*]; done)), H', ⟨by have := HK1.out; first | omega | exact Nat.le_refl _⟩, by repeat (first | exact Drawn0.refl _ | apply Drawn0.step)⟩
   case rest =>
    clear HC4
    try clear p2
    try clear c4
    try clear c5
    try clear c5b0
    try clear p2
    obtain ⟨kq, x18_3, rfl, HA, HJ3, ⟨mc3, rfl⟩⟩ := hcut
    cases kq with
    | zero => exact absurd HA.out (by simp [spec_l4Digits.j1])
    | succ kj3 =>
     have H := HA.out; clear HA
     simp only [spec_l4Digits.j1] at H
     by_cases c6 : x18_3 = true
     ·subst c6
      have H1 : (if 0 ≤ x9_1 then (if x9_1 < (a0.size : Int) then (if (bt a0 x9_1) < 48 then (some (0, false)) else (if (bt a0 x9_1) > 57 then (some (0, false)) else (spec_l4Digits.l0 kj3 a0 a1 a2 (wrap64 ((wrap64 (x8_1 * 10)) + (((bt a0 x9_1) - 48) % 256))) (wrap64 (x9_1 + 1))))) else (none)) else (none)) = some (r1, r2) := by rw [if_pos rfl] at H; exact H
      clear H; have H := H1; clear H1
      by_cases c7 : 0 ≤ x9_1
      ·rw [if_pos c7] at H
       have c7b0 : decide (0 ≤ x9_1) = true := decide_eq_true c7
       clear c7
       by_cases c8 : x9_1 < (a0.size : Int)
       ·rw [if_pos c8] at H
        have c8b0 : decide (x9_1 < (a0.size : Int)) = true := decide_eq_true c8
        clear c8
        by_cases c10 : (bt a0 x9_1) < 48
        ·rw [if_pos c10] at H
         have c10b0 : decide ((bt a0 x9_1) < 48) = true := decide_eq_true c10
         clear c10
         simp only [Option.some.injEq, Prod.mk.injEq] at H
         obtain ⟨rfl, rfl⟩ := H
         have p9 : 0 ≤ (x9_1 : Int) := of_decide_eq_true (by first | (with_reducible assumption) | assumption)
         have q9 : x9_1 < (a0.size : Int) := of_decide_eq_true (by first | (with_reducible assumption) | assumption)
         have hx9 := bt_at a0 x9_1; replace p9 := eq_true p9; replace q9 := eq_true q9
         go_wp2
         go_ret2
         exact ⟨by first | rfl | (simp; done) | (simp [*]; done), by repeat (first | exact Drawn0.refl _ | apply Drawn0.step)⟩
        rw [if_neg c10] at H
        have c10b0 : decide ((bt a0 x9_1) < 48) = false := decide_eq_false c10
        clear c10
        by_cases c12 : (bt a0 x9_1) > 57
        ·rw [if_pos c12] at H
         have c12b0 : decide (57 < (bt a0 x9_1)) = true := decide_eq_true c12
         clear c12
         simp only [Option.some.injEq, Prod.mk.injEq] at H
         obtain ⟨rfl, rfl⟩ := H
         have p9 : 0 ≤ (x9_1 : Int) := of_decide_eq_true (by first | (with_reducible assumption) | assumption)
         have q9 : x9_1 < (a0.size : Int) := of_decide_eq_true (by first | (with_reducible assumption) | assumption)
         have hx9 := bt_at a0 x9_1; replace p9 := eq_true p9; replace q9 := eq_true q9
         have p11 : 0 ≤ (x9_1 : Int) := of_decide_eq_true (by first | (with_reducible assumption) | assumption)
         have q11 : x9_1 < (a0.size : Int) := of_decide_eq_true (by first | (with_reducible assumption) | assumption)
         have hx11 := bt_at a0 x9_1; replace p11 := eq_true p11; replace q11 := eq_true q11
         go_wp2
         go_ret2
         exact ⟨by first | rfl | (simp; done) | (simp [*]; done), by repeat (first | exact Drawn0.refl _ | apply Drawn0.step)⟩
        rw [if_neg c12] at H
        have c12b0 : decide (57 < (bt a0 x9_1)) = false := decide_eq_false c12
        clear c12
        have H' := Aside0.mk H
        clear H
        have p9 : 0 ≤ (x9_1 : Int) := of_decide_eq_true (by first | (with_reducible assumption) | assumption)
        have q9 : x9_1 < (a0.size : Int) := of_decide_eq_true (by first | (with_reducible assumption) | assumption)
        have hx9 := bt_at a0 x9_1; replace p9 := eq_true p9; replace q9 := eq_true q9
        have p11 : 0 ≤ (x9_1 : Int) := of_decide_eq_true (by first | (with_reducible assumption) | assumption)
        have q11 : x9_1 < (a0.size : Int) := of_decide_eq_true (by first | (with_reducible assumption) | assumption)
        have hx11 := bt_at a0 x9_1; replace p11 := eq_true p11; replace q11 := eq_true q11
        have p13 : 0 ≤ (x9_1 : Int) := of_decide_eq_true (by first | (with_reducible assumption) | assumption)
        have q13 : x9_1 < (a0.size : Int) := of_decide_eq_true (by first | (with_reducible assumption) | assumption)
        have hx13 := bt_at a0 x9_1; replace p13 := eq_true p13; replace q13 := eq_true q13
        go_wp2
        go_roundg kj3
        case measure => have := HK1.out; have := HJ3.out; omega
        case rel => exact ⟨(wrap64 ((wrap64 (x8_1 * 10)) + (((bt a0 x9_1) - 48) % 256))), (wrap64 (x9_1 + 1)), (by first | rfl | (simp; done) | (simp [*]; done)), (by first | rfl | (simp; done) | (simp [*]; done)), H', ⟨by have := HK1.out; have := HJ3.out; omega⟩, by repeat (first | exact Drawn0.refl _ | apply Drawn0.step)⟩
       rw [if_neg c8] at H
       exact absurd H (by simp)
      rw [if_neg c7] at H
      exact absurd H (by simp)
     replace c6 := Bool.eq_false_iff.mpr c6
     subst c6
     have H1 : (if (a0.size : Int) ≥ a1 then (some (x8_1, decide ((a0.size : Int) ≤ a2))) else (some (x8_1, false))) = some (r1, r2) := by rw [if_neg (show ¬ (false = true) by decide)] at H; exact H
     clear H; have H := H1; clear H1
     by_cases c14 : (a0.size : Int) ≥ a1
     ·rw [if_pos c14] at H
      have c14b0 : decide (a1 ≤ (a0.size : Int)) = true := decide_eq_true c14
      clear c14
      simp only [Option.some.injEq, Prod.mk.injEq] at H
      obtain ⟨rfl, rfl⟩ := H
      go_wp2
      go_ret2
      exact ⟨by first | rfl | (simp; done) | (simp [*]; done), by repeat (first | exact Drawn0.refl _ | apply Drawn0.step)⟩
     rw [if_neg c14] at H
     have c14b0 : decide (a1 ≤ (a0.size : Int)) = false := decide_eq_false c14
     clear c14
     simp only [Option.some.injEq, Prod.mk.injEq] at H
     obtain ⟨rfl, rfl⟩ := H
     go_wp2
     go_ret2
     exact ⟨by first | rfl | (simp; done) | (simp [*]; done), by repeat (first | exact Drawn0.refl _ | apply Drawn0.step)⟩

/-! ### spec_LowerText: function 72, by hand -/
def spec_LowerText.low (b : UInt8) : UInt8 := if 65 ≤ b.toNat ∧ b.toNat ≤ 90 then b + 32 else b
theorem spec_LowerText.low_toNat (b : UInt8) : ((spec_LowerText.low b).toNat : Int) = if 65 ≤ (b.toNat : Int) ∧ (b.toNat : Int) ≤ 90 then ((b.toNat : Int) + 32) % 256 else (b.toNat : Int) := by
 unfold spec_LowerText.low
 by_cases h : 65 ≤ b.toNat ∧ b.toNat ≤ 90
 ·rw [if_pos h, if_pos (by omega)]
  rw [UInt8.toNat_add]
  rfl
 rw [if_neg h, if_neg (by omega)]
def spec_LowerText.f (a0 : ByteArray) : Option (ByteArray) := if a0.size ≤ 9223372036854775807 then some ⟨(a0.data.toList.map spec_LowerText.low).toArray⟩ else none
def spec_LowerText.byte (l : List UInt8) (i j : Nat) : UInt8 := if j < i then spec_LowerText.low (l.getD j 0) else l.getD j 0
theorem spec_LowerText.byte_step (l : List UInt8) (i j : Nat) : spec_LowerText.byte l (i + 1) j = if j = i then spec_LowerText.low (l.getD i 0) else spec_LowerText.byte l i j := by
 unfold spec_LowerText.byte
 by_cases e : j = i
 ·subst e
  rw [if_pos (by omega), if_pos rfl]
 rw [if_neg e]
 by_cases q : j < i
 ·rw [if_pos q, if_pos (by omega)]
 rw [if_neg q, if_neg (by omega)]
theorem spec_LowerText.keep {w W : World} {l : List UInt8} {n i : Nat} (b : UInt8) (hb : b = l.getD i 0) (hl : spec_LowerText.low b = b) (h : ∀ j, j < n → W.cell? ⟨w.heap.size, j, none⟩ = some (.int .u8 (spec_LowerText.byte l i j).toNat)) :
  ∀ j, j < n → W.cell? ⟨w.heap.size, j, none⟩ = some (.int .u8 (spec_LowerText.byte l (i + 1) j).toNat) := by
 intro j hj
 rw [h j hj, spec_LowerText.byte_step]
 by_cases e : j = i
 ·subst e
  rw [if_pos rfl, ← hb, hl]
  unfold spec_LowerText.byte
  rw [if_neg (Nat.lt_irrefl _), ← hb]
 rw [if_neg e]
theorem spec_LowerText.put {w W : World} {l : List UInt8} {n i : Nat} (b : UInt8) (x y : Int) (hb : b = l.getD i 0) (hl : y = ((spec_LowerText.low b).toNat : Int)) (hc : W.cell? ⟨w.heap.size, i, none⟩ = some (.int .u8 x)) (h : ∀ j, j < n → W.cell? ⟨w.heap.size, j, none⟩ = some (.int .u8 (spec_LowerText.byte l i j).toNat)) :
  ∀ j, j < n → (W.setCell ⟨w.heap.size, i, none⟩ (.int .u8 y)).cell? ⟨w.heap.size, j, none⟩ = some (.int .u8 (spec_LowerText.byte l (i + 1) j).toNat) := by
 intro j hj
 rw [spec_LowerText.byte_step]
 by_cases e : j = i
 ·subst e
  rw [World.cell?_setCell_same _ _ _ hc, if_pos rfl, ← hb, hl]
 rw [if_neg e, World.cell?_setCell_other _ _ _ _ (by intro q; injection q with _ q2; exact e q2.symm), h j hj]
theorem spec_LowerText.frozen_new (w : World) (s : ByteArray) (j : Nat) (hj : j < s.size) : (Lib.bytesWorld w 5 s).frozen? ⟨w.heap.size, j, none⟩ = false := by
 have hs : s.size ≤ (Lib.bytesCells w 5 s).size := by simp [Lib.bytesCells]
 simp [World.frozen?, Lib.bytesWorld_at_new]
 omega
set_option maxHeartbeats 8000000 in
set_option maxRecDepth 100000 in
theorem spec_LowerText.calls (a0 : ByteArray) (r : ByteArray) (w : World) (h : spec_LowerText.f a0 = some r) :
  Calls Tryd.prog 72 #[.string a0] w fun e w' => e = .returned (.string r) ∧ Below w.heap.size w w' := by
 unfold spec_LowerText.f at h
 by_cases hb : a0.size ≤ 9223372036854775807
 ·rw [if_pos hb] at h
  obtain rfl := Option.some.inj h
  clear h
  have hcv := Lib.run_convert_string_bytes (P := Tryd.prog) w 9 22 5 a0 Tryd.underlying9 Tryd.underlying22 Tryd.underlying5
  have hbl : Below w.heap.size w (Lib.bytesWorld w 5 a0) := ⟨rfl, rfl, rfl, by rw [Lib.bytesWorld_size]; omega, fun k hk => Lib.bytesWorld_at_old w 5 a0 k hk⟩
  have hcs : ∀ j, j < a0.size → (Lib.bytesWorld w 5 a0).cell? ⟨w.heap.size, j, none⟩ = some (.int .u8 (spec_LowerText.byte a0.data.toList 0 j).toNat) := by
   intro j hj
   rw [Lib.bytesWorld_cell w 5 a0 j hj]
   unfold spec_LowerText.byte
   rw [if_neg (by omega)]
  have hfz : ∀ j, j < a0.size → (Lib.bytesWorld w 5 a0).frozen? ⟨w.heap.size, j, none⟩ = false := fun j hj => spec_LowerText.frozen_new w a0 j hj
  have hback : ∀ (W : World) (c : Nat), (∀ j, j < a0.size → W.cell? ⟨w.heap.size, j, none⟩ = some (.int .u8 (spec_LowerText.byte a0.data.toList a0.size j).toNat)) → (convert 22 9 (.slice (some ⟨w.heap.size, 0, none⟩) a0.size c)).run Tryd.prog W = .ok (.string ⟨(a0.data.toList.map spec_LowerText.low).toArray⟩) W := by
   intro W c hW
   have hl : a0.size = (a0.data.toList.map spec_LowerText.low).length := by rw [List.length_map]; rfl
   have e := run_convert_bytes_back (P := Tryd.prog) W 22 9 5 ⟨w.heap.size, 0, none⟩ c (a0.data.toList.map spec_LowerText.low) Tryd.underlying22 Tryd.underlying5 Tryd.underlying9 (fun j hj => by
    have hj' : j < a0.size := by rw [hl]; exact hj
    have e2 := hW j hj'
    have e3 : spec_LowerText.byte a0.data.toList a0.size j = (a0.data.toList.map spec_LowerText.low)[j] := by
     unfold spec_LowerText.byte
     rw [if_pos hj', List.getElem_map, List.getD_eq_getElem?_getD, List.getElem?_eq_getElem (by simpa using hj)]
     rfl
    rw [e3] at e2
    have ea : (⟨w.heap.size, 0, none⟩ : Addr).add j = ⟨w.heap.size, j, none⟩ := by
     cases j with
     | zero => rfl
     | succ j => unfold Addr.add; rw [if_neg (by omega), Nat.zero_add]
    rw [ea]
    exact e2)
   rw [← hl] at e
   exact e
  have hB : Aside0 (Below w.heap.size w (Lib.bytesWorld w 5 a0)) := ⟨hbl⟩
  have HC : Aside0 (∀ j, j < a0.size → (Lib.bytesWorld w 5 a0).cell? ⟨w.heap.size, j, none⟩ = some (.int .u8 (spec_LowerText.byte a0.data.toList 0 j).toNat)) := ⟨hcs⟩
  have HF : Aside0 (∀ j, j < a0.size → (Lib.bytesWorld w 5 a0).frozen? ⟨w.heap.size, j, none⟩ = false) := ⟨hfz⟩
  have HK := Aside0.mk hback
  clear hcs hfz hbl hback
  obtain ⟨cap, hcap⟩ : ∃ cap, cap = grownCap w a0.size 0 5 := ⟨_, rfl⟩
  rw [← hcap] at hcv
  clear hcap
  generalize Lib.bytesWorld w 5 a0 = W0 at hcv HC HF hB
  obtain ⟨n, hn⟩ : ∃ n, Aside0 (n = a0.size) := ⟨_, ⟨rfl⟩⟩
  rw [← hn.out] at hcv HC HF HK hb
  clear hn
  go_enter Tryd.func72, Tryd.ntmps72
  go_wp2
  go_loopg [4] n (fun gg v10 wr => ∃ (i : Nat), v10 = .int .i64 i ∧ i ≤ n ∧ n - i ≤ gg ∧ Aside0 (Below w.heap.size w wr) ∧ Aside0 (∀ j, j < n → wr.cell? ⟨w.heap.size, j, none⟩ = some (.int .u8 (spec_LowerText.byte a0.data.toList i j).toNat)) ∧ Aside0 (∀ j, j < n → wr.frozen? ⟨w.heap.size, j, none⟩ = false))
  case atStart => exact ⟨0, by first | rfl | (simp; done), Nat.zero_le _, by omega, hB, HC, HF⟩
  case round =>
   obtain ⟨i, rfl, hi, hg, RB, RC, RF⟩ := hrel
   by_cases hlt : i < n
   ·have hltz : (i : Int) < (n : Int) := by omega
    have h0 : (0 : Int) ≤ (i : Int) := by omega
    have hd : decide ((i : Int) < (n : Int)) = true := decide_eq_true hltz
    have hc := RC.out i hlt; have hf := RF.out i hlt
    have hby : spec_LowerText.byte a0.data.toList i i = a0.data.toList.getD i 0 := by unfold spec_LowerText.byte; rw [if_neg (Nat.lt_irrefl _)]
    rw [hby] at hc
    clear hby
    obtain ⟨b, hbq⟩ : ∃ b, Aside0 (b = a0.data.toList.getD i 0) := ⟨_, ⟨rfl⟩⟩
    rw [← hbq.out] at hc
    obtain ⟨x, hx⟩ : ∃ x : Int, Aside0 (x = (b.toNat : Int)) := ⟨_, ⟨rfl⟩⟩
    rw [← hx.out] at hc
    clear hcv
    by_cases c1 : 65 ≤ x
    ·have c1b : decide (65 ≤ x) = true := decide_eq_true c1
     by_cases c2 : x ≤ 90
     ·have c2b : decide (x ≤ 90) = true := decide_eq_true c2
      go_wp2
      go_roundg (n - (i + 1))
      case measure => omega
      case rel =>
       refine ⟨i + 1, by first | rfl | go_num, by omega, by omega, ⟨RB.out.setCell (Nat.le_refl _) _⟩, ⟨spec_LowerText.put b x (x + 32) hbq.out ?_ hc RC.out⟩, ⟨fun j hj => by rw [World.frozen?_setCell]; exact RF.out j hj⟩⟩
       have hx2 := hx.out; have hl := spec_LowerText.low_toNat b
       rw [← hx2, if_pos ⟨c1, c2⟩] at hl
       rw [hl]
       omega
     have c2b : decide (x ≤ 90) = false := decide_eq_false c2
     go_wp2
     go_roundg (n - (i + 1))
     case measure => omega
     case rel =>
      refine ⟨i + 1, by first | rfl | go_num, by omega, by omega, RB, ⟨spec_LowerText.keep b hbq.out ?_ RC.out⟩, RF⟩
      have hx2 := hx.out
      unfold spec_LowerText.low
      rw [if_neg (by omega)]
    have c1b : decide (65 ≤ x) = false := decide_eq_false c1
    go_wp2
    go_roundg (n - (i + 1))
    case measure => omega
    case rel =>
     refine ⟨i + 1, by first | rfl | go_num, by omega, by omega, RB, ⟨spec_LowerText.keep b hbq.out ?_ RC.out⟩, RF⟩
     have hx2 := hx.out
     unfold spec_LowerText.low
     rw [if_neg (by omega)]
   obtain rfl : i = n := by omega
   have hltz : decide ((i : Int) < (i : Int)) = false := decide_eq_false (by omega)
   have hbk := HK.out wr cap RC.out; clear hcv
   go_wp2
   go_ret
   exact ⟨rfl, RB.out⟩
 rw [if_neg hb] at h
 cases h

/-! ### spec_SameText: function 45 -/
def spec_SameText.f (a0 : ByteArray) (a1 : ByteArray) : Option (Bool) := (spec_LowerText.f a0).bind fun t160 => ((spec_LowerText.f a1).bind fun t161 => (some (t160.toList == t161.toList)))
set_option maxHeartbeats 8000000 in
set_option maxRecDepth 100000 in
theorem spec_SameText.calls (a0 : ByteArray) (a1 : ByteArray) (r : Bool) (w : World) (h : spec_SameText.f a0 a1 = some r) :
  Calls Tryd.prog 45 #[.string a0, .string a1] w fun e w' => e = .returned (.bool r) ∧ Below w.heap.size w w' := by
 have HB := Aside0.mk (Below.refl w.heap.size w)
 have H : ((spec_LowerText.f a0).bind fun t160 => ((spec_LowerText.f a1).bind fun t161 => (some (t160.toList == t161.toList)))) = some r := h
 clear h
 replace H := Option.bind_eq_some_iff.mp H
 obtain ⟨t160, A30, H⟩ := H
 replace H : ((spec_LowerText.f a1).bind fun t161 => (some (t160.toList == t161.toList))) = some r := H
 have A3 := Aside0.mk A30
 clear A30
 replace H := Option.bind_eq_some_iff.mp H
 obtain ⟨t161, A40, H⟩ := H
 replace H : (some (t160.toList == t161.toList)) = some r := H
 have A4 := Aside0.mk A40
 clear A40
 obtain rfl := Option.some.inj H
 go_enter Tryd.func45, Tryd.ntmps45
 go_wp2_with (first | ((with_reducible refine gate_callee (f := 72) rfl ?_); refine goesL_ (some 6) rfl rfl Tryd.func72 (by kernel_rfl) rfl #[.string a0] rfl (by (try simp only [List.map_toArray, List.map_cons, List.map_nil]); first | done | rfl | (simp only [List.length_drop, List.length_take]; rfl)) ?_; (with_reducible refine (spec_LowerText.calls a0 t160 _ A3.out).mono ?_); rintro e w5 ⟨rfl, hb⟩; refine ⟨_, rfl, ?_⟩; have n0_ := Aside0.mk (below_step (by repeat (first | (with_reducible first | exact HB.out | apply Be | apply Bc | apply Bd) | exact HB.out)) hb); clear HB; have HB := n0_; clear n0_; (try clear hb); (try clear hb2); (try clear hk); (try clear hi)) | ((with_reducible refine gate_callee (f := 72) rfl ?_); refine goesL_ (some 8) rfl rfl Tryd.func72 (by kernel_rfl) rfl #[.string a1] rfl (by (try simp only [List.map_toArray, List.map_cons, List.map_nil]); first | done | rfl | (simp only [List.length_drop, List.length_take]; rfl)) ?_; (with_reducible refine (spec_LowerText.calls a1 t161 _ A4.out).mono ?_); rintro e w6 ⟨rfl, hb⟩; refine ⟨_, rfl, ?_⟩; have n0_ := Aside0.mk (below_step (by repeat (first | (with_reducible first | exact HB.out | apply Be | apply Bc | apply Bd) | exact HB.out)) hb); clear HB; have HB := n0_; clear n0_; (try clear hb); (try clear hb2); (try clear hk); (try clear hi)))
 go_ret
 exact ⟨by first | rfl | (simp [errW_none, errW_some] <;> rfl) | (simp [*, errW_none, errW_some] <;> rfl), by repeat (first | (with_reducible first | exact HB.out | apply Be | apply Bc | apply Bd) | exact HB.out)⟩

/-! ### spec_l4Time: function 46 -/
def spec_l4Time.j0 : Nat → List ByteArray → Bool → Int → Int → Int → Int → Int → Int → Int → Option (Int × Int × Int × Int × Int × Int × Int × Bool)
 | 0, _, _, _, _, _, _, _, _, _ => none
 | k + 1, x6, x22, x163000, x163001, x163002, x163003, x163004, x163005, x163006 => if x22 = true then (some (x163000, x163001, x163002, x163003, x163004, x163005, x163006, false)) else (if 0 < (x6.length : Int) then ((spec_l4Digits.f k (rdOf ByteArray.empty x6 0) 2 2).bind fun bt168 => (if 1 < (x6.length : Int) then ((spec_l4Digits.f k (rdOf ByteArray.empty x6 1) 2 2).bind fun bt171 => (if (x6.length : Int) = 3 then (if 2 < (x6.length : Int) then ((spec_l4Digits.f k (rdOf ByteArray.empty x6 2) 2 2).bind fun bt174 => (if bt168.2 = true then (if bt171.2 = true then (some (x163000, x163001, x163002, bt168.1, bt171.1, bt174.1, x163006, bt174.2)) else (some (x163000, x163001, x163002, bt168.1, bt171.1, bt174.1, x163006, false))) else (some (x163000, x163001, x163002, bt168.1, bt171.1, bt174.1, x163006, false)))) else (none)) else (if bt168.2 = true then (if bt171.2 = true then (some (x163000, x163001, x163002, bt168.1, bt171.1, 0, x163006, true)) else (some (x163000, x163001, x163002, bt168.1, bt171.1, 0, x163006, false))) else (some (x163000, x163001, x163002, bt168.1, bt171.1, 0, x163006, false))))) else (none))) else (none))
def spec_l4Time.f (k : Nat) (a0 : ByteArray) (a1_0 : Int) (a1_1 : Int) (a1_2 : Int) (a1_3 : Int) (a1_4 : Int) (a1_5 : Int) (a1_6 : Int) : Option (Int × Int × Int × Int × Int × Int × Int × Bool) := (spec_l2Parts.f k a0 58).bind fun t164 => (if (t164.length : Int) < 2 then (spec_l4Time.j0 k t164 true a1_0 a1_1 a1_2 a1_3 a1_4 a1_5 a1_6) else (spec_l4Time.j0 k t164 (decide ((t164.length : Int) > 3)) a1_0 a1_1 a1_2 a1_3 a1_4 a1_5 a1_6))
theorem spec_l4Time.mono_l : ∀ k, (∀ y0 y1 y2 y3 y4 y5 y6 y7 y8, LeO (spec_l4Time.j0 k y0 y1 y2 y3 y4 y5 y6 y7 y8) (spec_l4Time.j0 (k + 1) y0 y1 y2 y3 y4 y5 y6 y7 y8))
 | 0 => fun _ _ _ _ _ _ _ _ _ r h => by simp [spec_l4Time.j0] at h
 | k + 1 => by
  have ih0 := spec_l4Time.mono_l k
  intro y0 y1 y2 y3 y4 y5 y6 y7 y8
  unfold spec_l4Time.j0
  repeat' first
  | (with_reducible exact ih0 _ _ _ _ _ _ _ _ _)
  | (with_reducible exact spec_l2Parts.mono _ _ _)
  | (with_reducible exact spec_l4Digits.mono _ _ _ _)
  | (with_reducible exact LeO.refl _)
  | (with_reducible exact LeO.none _)
  | (with_reducible refine LeO.ite ?_ ?_)
  | (with_reducible refine LeO.bind ?_ (fun _ => ?_))
theorem spec_l4Time.mono : ∀ a0 a1 a2 a3 a4 a5 a6 a7 k, LeO (spec_l4Time.f k a0 a1 a2 a3 a4 a5 a6 a7) (spec_l4Time.f (k + 1) a0 a1 a2 a3 a4 a5 a6 a7) := by
 intro a0 a1 a2 a3 a4 a5 a6 a7 k
 have ih0 := spec_l4Time.mono_l k
 unfold spec_l4Time.f
 repeat' first
   | (with_reducible exact ih0 _ _ _ _ _ _ _ _ _)
   | (with_reducible exact spec_l2Parts.mono _ _ _)
   | (with_reducible exact spec_l4Digits.mono _ _ _ _)
   | (with_reducible exact LeO.refl _)
   | (with_reducible exact LeO.none _)
   | (with_reducible refine LeO.ite ?_ ?_)
   | (with_reducible refine LeO.bind ?_ (fun _ => ?_))
set_option maxHeartbeats 8000000 in
set_option maxRecDepth 100000 in
theorem spec_l4Time.calls (k : Nat) (a0 : ByteArray) (a1_0 : Int) (a1_1 : Int) (a1_2 : Int) (a1_3 : Int) (a1_4 : Int) (a1_5 : Int) (a1_6 : Int) (r1 : Int) (r2 : Int) (r3 : Int) (r4 : Int) (r5 : Int) (r6 : Int) (r7 : Int) (r8 : Bool) (w : World) (h : spec_l4Time.f k a0 a1_0 a1_1 a1_2 a1_3 a1_4 a1_5 a1_6 = some (r1, r2, r3, r4, r5, r6, r7, r8)) :
  Calls Tryd.prog 46 #[.string a0, .agg #[.int .i64 a1_0, .int .i64 a1_1, .int .i64 a1_2, .int .i64 a1_3, .int .i64 a1_4, .int .i64 a1_5, .int .i64 a1_6]] w fun e w' => e = .returned (.tuple #[.agg #[.int .i64 r1, .int .i64 r2, .int .i64 r3, .int .i64 r4, .int .i64 r5, .int .i64 r6, .int .i64 r7], .bool r8]) ∧ Below w.heap.size w w' := by
 have hu24 := Tryd.underlying24
 have HB := Aside0.mk (Below.refl w.heap.size w)
 have H : ((spec_l2Parts.f k a0 58).bind fun t164 => (if (t164.length : Int) < 2 then (spec_l4Time.j0 k t164 true a1_0 a1_1 a1_2 a1_3 a1_4 a1_5 a1_6) else (spec_l4Time.j0 k t164 (decide ((t164.length : Int) > 3)) a1_0 a1_1 a1_2 a1_3 a1_4 a1_5 a1_6))) = some (r1, r2, r3, r4, r5, r6, r7, r8) := h
 clear h
 replace H := Option.bind_eq_some_iff.mp H
 obtain ⟨t164, A30, H⟩ := H
 replace H : (if (t164.length : Int) < 2 then (spec_l4Time.j0 k t164 true a1_0 a1_1 a1_2 a1_3 a1_4 a1_5 a1_6) else (spec_l4Time.j0 k t164 (decide ((t164.length : Int) > 3)) a1_0 a1_1 a1_2 a1_3 a1_4 a1_5 a1_6)) = some (r1, r2, r3, r4, r5, r6, r7, r8) := H
 have A3 := Aside0.mk A30
 clear A30
 have HC4 := Aside0.mk H
 clear H
 go_enter Tryd.func46, Tryd.ntmps46
 go_upto_region 2 with (first | ((with_reducible refine gate_dst (N := 3) rfl ?_); (try (refine gate_guard (by rfl) ?_; dsimp only)); refine box_event ?hg (N := 3) ?hd (cs := #[.int .i64 a1_0, .int .i64 a1_1, .int .i64 a1_2, .int .i64 a1_3, .int .i64 a1_4, .int .i64 a1_5, .int .i64 a1_6]) (t := 24) ?hr ?_; (case hd => rfl); (case hg => rfl); (case hr => first | (go_simp; done) | (go_simp; rfl)); intro gb162 hg w5 hbox hb; have n0_ := Aside0.mk (below_step (by repeat (first | (with_reducible first | exact HB.out | apply Be | apply Bc | apply Bd) | exact HB.out)) hb); have n1_ := Aside0.mk (hbox); have n2_ := Aside0.mk ((by rw [hg]; exact (below_size (by repeat (first | (with_reducible first | exact HB.out | apply Be | apply Bc | apply Bd) | exact HB.out))) : w.heap.size ≤ gb162)); have n3_ := Aside0.mk ((by rw [hg]; exact (below_size (by repeat (first | (with_reducible first | exact HB.out | apply Be | apply Bc | apply Bd) | exact HB.out))) : w.heap.size ≤ gb162)); clear HB; have HB := n0_; have BK162 := n1_; have GW162 := n2_; have GE162 := n3_; clear n0_ n1_ n2_ n3_; clear hb hbox hg) | ((with_reducible refine gate_dst (N := 4) rfl ?_); (try (refine gate_guard (by rfl) ?_; dsimp only)); refine box_event ?hg (N := 4) ?hd (cs := #[.int .i64 0, .int .i64 0, .int .i64 0, .int .i64 0, .int .i64 0, .int .i64 0, .int .i64 0]) (t := 24) ?hr ?_; (case hd => rfl); (case hg => rfl); (case hr => first | (go_simp; done) | (go_simp; rfl)); intro gb163 hg w6 hbox hb; have n0_ := Aside0.mk (blk_below (g := gb162) (o := .cells #[.int .i64 a1_0, .int .i64 a1_1, .int .i64 a1_2, .int .i64 a1_3, .int .i64 a1_4, .int .i64 a1_5, .int .i64 a1_6] 24 (0, 0)) (by (with_reducible repeat (first | refine Bf ?_ _ | refine Bh ?_ | refine Bg ?_ _)); exact BK162.out) hb); have n1_ := Aside0.mk (below_step (by repeat (first | (with_reducible first | exact HB.out | apply Be | apply Bc | apply Bd | refine below_set ?_ GE162.out) | exact HB.out)) hb); have n2_ := Aside0.mk (hbox); have n3_ := Aside0.mk ((by rw [hg]; exact (below_size (by repeat (first | (with_reducible first | exact HB.out | apply Be | apply Bc | apply Bd | refine below_set ?_ GE162.out) | exact HB.out))) : w.heap.size ≤ gb163)); have n4_ := Aside0.mk ((by rw [hg]; exact (below_size (by repeat (first | (with_reducible first | exact HB.out | apply Be | apply Bc | apply Bd | refine below_set ?_ GE162.out) | exact HB.out))) : w.heap.size ≤ gb163)); have n5_ := Aside0.mk ((by rw [hg]; exact Nat.ne_of_lt (blk_lt (g := gb162) (o := .cells #[.int .i64 a1_0, .int .i64 a1_1, .int .i64 a1_2, .int .i64 a1_3, .int .i64 a1_4, .int .i64 a1_5, .int .i64 a1_6] 24 (0, 0)) (by (with_reducible repeat (first | refine Bf ?_ _ | refine Bh ?_ | refine Bg ?_ _)); exact BK162.out)) : gb162 ≠ gb163)); have n6_ := Aside0.mk ((by rw [hg]; exact Nat.ne_of_gt (blk_lt (g := gb162) (o := .cells #[.int .i64 a1_0, .int .i64 a1_1, .int .i64 a1_2, .int .i64 a1_3, .int .i64 a1_4, .int .i64 a1_5, .int .i64 a1_6] 24 (0, 0)) (by (with_reducible repeat (first | refine Bf ?_ _ | refine Bh ?_ | refine Bg ?_ _)); exact BK162.out)) : gb163 ≠ gb162)); clear BK162; clear HB; have BK162 := n0_; have HB := n1_; have BK163 := n2_; have GW163 := n3_; have GE163 := n4_; have NB162_163 := n5_; have NB163_162 := n6_; clear n0_ n1_ n2_ n3_ n4_ n5_ n6_; clear hb hbox hg) | ((with_reducible refine gate_callee (f := 43) rfl ?_); refine goesL_ (some 14) rfl rfl Tryd.func43 (by kernel_rfl) rfl #[.string a0, .int .u8 58] rfl (by (try simp only [List.map_toArray, List.map_cons, List.map_nil]); first | done | rfl | (simp only [List.length_drop, List.length_take]; rfl)) ?_; (with_reducible refine (spec_l2Parts.calls k a0 58 t164 _ A3.out).mono ?_); rintro e w7 ⟨v165, rfl, ho0, hb⟩; refine ⟨_, rfl, ?_⟩; have n0_ := Aside0.mk (Kd.R_lower ho0 (below_size (by repeat (first | (with_reducible first | exact HB.out | apply Be | apply Bc | apply Bd | refine below_set ?_ GE162.out | refine below_set ?_ GE163.out) | exact HB.out)))); have n1_ := Aside0.mk (blk_below (g := gb162) (o := .cells #[.int .i64 a1_0, .int .i64 a1_1, .int .i64 a1_2, .int .i64 a1_3, .int .i64 a1_4, .int .i64 a1_5, .int .i64 a1_6] 24 (0, 0)) (by (with_reducible repeat (first | refine Bf ?_ _ | refine Bh ?_ | refine Bg ?_ _)); exact BK162.out) hb); have n2_ := Aside0.mk (blk_below (g := gb163) (o := .cells #[.int .i64 0, .int .i64 0, .int .i64 0, .int .i64 0, .int .i64 0, .int .i64 0, .int .i64 0] 24 (0, 0)) (by (with_reducible repeat (first | refine Bf ?_ _ | refine Bh ?_ | refine Bg ?_ _)); exact BK163.out) hb); have n3_ := Aside0.mk (below_step (by repeat (first | (with_reducible first | exact HB.out | apply Be | apply Bc | apply Bd | refine below_set ?_ GE162.out | refine below_set ?_ GE163.out) | exact HB.out)) hb); clear BK162; clear BK163; clear HB; have HO166 := n0_; have BK162 := n1_; have BK163 := n2_; have HB := n3_; clear n0_ n1_ n2_ n3_; (try clear hb); (try clear hb2); (try clear hk); (try clear hi); (try clear ho0)))
 (try simp only [Act.put, List.setIfInBounds_toArray, List.set_cons_zero, List.set_cons_succ])
 go_cut [22] (fun v22 wc => ∃ (kq : Nat) (x22_3 : Bool), v22 = .bool x22_3 ∧ Aside0 (spec_l4Time.j0 kq t164 x22_3 a1_0 a1_1 a1_2 a1_3 a1_4 a1_5 a1_6 = some (r1, r2, r3, r4, r5, r6, r7, r8)) ∧ Aside0 (kq ≤ k) ∧ Aside0 (Kd.R Kd.string 9 wc w.heap.size (fun _ => True) v165 t164) ∧ Aside0 (wc.heap[gb162]? = some (.cells #[.int .i64 a1_0, .int .i64 a1_1, .int .i64 a1_2, .int .i64 a1_3, .int .i64 a1_4, .int .i64 a1_5, .int .i64 a1_6] 24 (0, 0))) ∧ Aside0 (wc.heap[gb163]? = some (.cells #[.int .i64 0, .int .i64 0, .int .i64 0, .int .i64 0, .int .i64 0, .int .i64 0, .int .i64 0] 24 (0, 0))) ∧ Aside0 (Below w.heap.size w wc))
 case first =>
  have H := HC4.out
  clear HC4
  by_cases c8 : (t164.length : Int) < 2
  ·rw [if_pos c8] at H
   have c8b0 : decide ((t164.length : Int) < 2) = true := decide_eq_true c8
   have c8b1 : decide (t164.length < 2) = true := decide_eq_true (by omega)
   clear c8
   (first | rw [c8b0] | (simp only [i64_w, i32_w]; rw [c8b0]) | skip)
   have H' := Aside0.mk H
   clear H
   obtain ⟨Ao9, co9, eo9⟩ := Kd.R_slice HO166.out
   subst eo9
   go_wp2
   go_meet
   case rel => exact ⟨_, (true), (by first | rfl | (simp; done) | (simp [*]; done)), H', ⟨by first | omega | exact Nat.le_refl _⟩, ⟨by (with_reducible repeat (first | apply Kd.R_alloc | apply Kd.R_drewN | apply Kd.R_drew)); exact HO166.out⟩, ⟨by (with_reducible repeat (first | refine Bf ?_ _ | refine Bh ?_ | refine Bg ?_ _)); exact BK162.out⟩, ⟨by (with_reducible repeat (first | refine Bf ?_ _ | refine Bh ?_ | refine Bg ?_ _)); exact BK163.out⟩, ⟨by repeat (first | (with_reducible first | exact HB.out | apply Be | apply Bc | apply Bd | refine below_set ?_ GE162.out | refine below_set ?_ GE163.out) | exact HB.out)⟩⟩
  rw [if_neg c8] at H
  have c8b0 : decide ((t164.length : Int) < 2) = false := decide_eq_false c8
  have c8b1 : decide (t164.length < 2) = false := decide_eq_false (by omega)
  clear c8
  (first | rw [c8b0] | (simp only [i64_w, i32_w]; rw [c8b0]) | skip)
  have H' := Aside0.mk H
  clear H
  obtain ⟨Ao10, co10, eo10⟩ := Kd.R_slice HO166.out
  subst eo10
  go_wp2
  go_meet
  case rel => exact ⟨_, (decide ((t164.length : Int) > 3)), (by first | rfl | (simp; done) | (simp [*]; done)), H', ⟨by first | omega | exact Nat.le_refl _⟩, ⟨by (with_reducible repeat (first | apply Kd.R_alloc | apply Kd.R_drewN | apply Kd.R_drew)); exact HO166.out⟩, ⟨by (with_reducible repeat (first | refine Bf ?_ _ | refine Bh ?_ | refine Bg ?_ _)); exact BK162.out⟩, ⟨by (with_reducible repeat (first | refine Bf ?_ _ | refine Bh ?_ | refine Bg ?_ _)); exact BK163.out⟩, ⟨by repeat (first | (with_reducible first | exact HB.out | apply Be | apply Bc | apply Bd | refine below_set ?_ GE162.out | refine below_set ?_ GE163.out) | exact HB.out)⟩⟩
 case rest =>
  clear HC4
  try clear p2
  try clear c4
  try clear c8
  try clear c8b0
  try clear c8b1
  obtain ⟨kq, x22_3, rfl, HA, HJ3, HO_6, BK162, BK163, HB⟩ := hcut
  cases kq with
  | zero => exact absurd HA.out (by simp [spec_l4Time.j0])
  | succ kj3 =>
   have H := HA.out; clear HA
   simp only [spec_l4Time.j0] at H
   by_cases c11 : x22_3 = true
   ·subst c11
    have H1 : (some (a1_0, a1_1, a1_2, a1_3, a1_4, a1_5, a1_6, false)) = some (r1, r2, r3, r4, r5, r6, r7, r8) := by rw [if_pos rfl] at H; exact H
    clear H; have H := H1; clear H1
    simp only [Option.some.injEq, Prod.mk.injEq] at H
    obtain ⟨rfl, rfl, rfl, rfl, rfl, rfl, rfl, rfl⟩ := H
    have hnb12 := NB162_163.out; have hnc12 := NB163_162.out
    have hcz13_0 : wc.cell? ⟨gb162, 0, none⟩ = some (.int .i64 a1_0) := (Ba BK162.out 0).trans rfl
    have hcz13_1 : wc.cell? ⟨gb162, 1, none⟩ = some (.int .i64 a1_1) := (Ba BK162.out 1).trans rfl
    have hcz13_2 : wc.cell? ⟨gb162, 2, none⟩ = some (.int .i64 a1_2) := (Ba BK162.out 2).trans rfl
    have hcz13_3 : wc.cell? ⟨gb162, 3, none⟩ = some (.int .i64 a1_3) := (Ba BK162.out 3).trans rfl
    have hcz13_4 : wc.cell? ⟨gb162, 4, none⟩ = some (.int .i64 a1_4) := (Ba BK162.out 4).trans rfl
    have hcz13_5 : wc.cell? ⟨gb162, 5, none⟩ = some (.int .i64 a1_5) := (Ba BK162.out 5).trans rfl
    have hcz13_6 : wc.cell? ⟨gb162, 6, none⟩ = some (.int .i64 a1_6) := (Ba BK162.out 6).trans rfl
    have hfz13_0 := Bb BK162.out 0; have hfz13_1 := Bb BK162.out 1; have hfz13_2 := Bb BK162.out 2; have hfz13_3 := Bb BK162.out 3; have hfz13_4 := Bb BK162.out 4; have hfz13_5 := Bb BK162.out 5; have hfz13_6 := Bb BK162.out 6
    have hcz14_0 : wc.cell? ⟨gb163, 0, none⟩ = some (.int .i64 0) := (Ba BK163.out 0).trans rfl
    have hcz14_1 : wc.cell? ⟨gb163, 1, none⟩ = some (.int .i64 0) := (Ba BK163.out 1).trans rfl
    have hcz14_2 : wc.cell? ⟨gb163, 2, none⟩ = some (.int .i64 0) := (Ba BK163.out 2).trans rfl
    have hcz14_3 : wc.cell? ⟨gb163, 3, none⟩ = some (.int .i64 0) := (Ba BK163.out 3).trans rfl
    have hcz14_4 : wc.cell? ⟨gb163, 4, none⟩ = some (.int .i64 0) := (Ba BK163.out 4).trans rfl
    have hcz14_5 : wc.cell? ⟨gb163, 5, none⟩ = some (.int .i64 0) := (Ba BK163.out 5).trans rfl
    have hcz14_6 : wc.cell? ⟨gb163, 6, none⟩ = some (.int .i64 0) := (Ba BK163.out 6).trans rfl
    have hfz14_0 := Bb BK163.out 0; have hfz14_1 := Bb BK163.out 1; have hfz14_2 := Bb BK163.out 2; have hfz14_3 := Bb BK163.out 3; have hfz14_4 := Bb BK163.out 4; have hfz14_5 := Bb BK163.out 5; have hfz14_6 := Bb BK163.out 6
    go_wp2
    refine bodyPost_ret (results_ct rfl _ _ gb163 24 #[.int .i64 a1_0, .int .i64 a1_1, .int .i64 a1_2, .int .i64 a1_3, .int .i64 a1_4, .int .i64 a1_5, .int .i64 a1_6] (0, 0) _ rfl (by (with_reducible repeat (first | refine Bf ?_ _ | refine Bh ?_ | refine Bg ?_ _)); refine blk_put (cs := #[.int .i64 a1_0, .int .i64 a1_1, .int .i64 a1_2, .int .i64 a1_3, .int .i64 a1_4, .int .i64 a1_5, .int .i64 0]) ?_ 6 _ rfl; (with_reducible repeat (first | refine Bf ?_ _ | refine Bh ?_ | refine Bg ?_ _)); refine blk_put (cs := #[.int .i64 a1_0, .int .i64 a1_1, .int .i64 a1_2, .int .i64 a1_3, .int .i64 a1_4, .int .i64 0, .int .i64 0]) ?_ 5 _ rfl; (with_reducible repeat (first | refine Bf ?_ _ | refine Bh ?_ | refine Bg ?_ _)); refine blk_put (cs := #[.int .i64 a1_0, .int .i64 a1_1, .int .i64 a1_2, .int .i64 a1_3, .int .i64 0, .int .i64 0, .int .i64 0]) ?_ 4 _ rfl; (with_reducible repeat (first | refine Bf ?_ _ | refine Bh ?_ | refine Bg ?_ _)); refine blk_put (cs := #[.int .i64 a1_0, .int .i64 a1_1, .int .i64 a1_2, .int .i64 0, .int .i64 0, .int .i64 0, .int .i64 0]) ?_ 3 _ rfl; (with_reducible repeat (first | refine Bf ?_ _ | refine Bh ?_ | refine Bg ?_ _)); refine blk_put (cs := #[.int .i64 a1_0, .int .i64 a1_1, .int .i64 0, .int .i64 0, .int .i64 0, .int .i64 0, .int .i64 0]) ?_ 2 _ rfl; (with_reducible repeat (first | refine Bf ?_ _ | refine Bh ?_ | refine Bg ?_ _)); refine blk_put (cs := #[.int .i64 a1_0, .int .i64 0, .int .i64 0, .int .i64 0, .int .i64 0, .int .i64 0, .int .i64 0]) ?_ 1 _ rfl; (with_reducible repeat (first | refine Bf ?_ _ | refine Bh ?_ | refine Bg ?_ _)); refine blk_put (cs := #[.int .i64 0, .int .i64 0, .int .i64 0, .int .i64 0, .int .i64 0, .int .i64 0, .int .i64 0]) ?_ 0 _ rfl; (with_reducible repeat (first | refine Bf ?_ _ | refine Bh ?_ | refine Bg ?_ _)); exact BK163.out) Tryd.underlying24 rfl (by kernel_rfl)) rfl ?_
    exact ⟨by first | rfl | (simp [errW_none, errW_some] <;> rfl) | (simp [*, errW_none, errW_some] <;> rfl), by repeat (first | (with_reducible first | exact HB.out | apply Be | apply Bc | apply Bd | refine below_set ?_ GE162.out | refine below_set ?_ GE163.out) | exact HB.out)⟩
   replace c11 := Bool.eq_false_iff.mpr c11
   subst c11
   have H1 : (if 0 < (t164.length : Int) then ((spec_l4Digits.f kj3 (rdOf ByteArray.empty t164 0) 2 2).bind fun bt168 => (if 1 < (t164.length : Int) then ((spec_l4Digits.f kj3 (rdOf ByteArray.empty t164 1) 2 2).bind fun bt171 => (if (t164.length : Int) = 3 then (if 2 < (t164.length : Int) then ((spec_l4Digits.f kj3 (rdOf ByteArray.empty t164 2) 2 2).bind fun bt174 => (if bt168.2 = true then (if bt171.2 = true then (some (a1_0, a1_1, a1_2, bt168.1, bt171.1, bt174.1, a1_6, bt174.2)) else (some (a1_0, a1_1, a1_2, bt168.1, bt171.1, bt174.1, a1_6, false))) else (some (a1_0, a1_1, a1_2, bt168.1, bt171.1, bt174.1, a1_6, false)))) else (none)) else (if bt168.2 = true then (if bt171.2 = true then (some (a1_0, a1_1, a1_2, bt168.1, bt171.1, 0, a1_6, true)) else (some (a1_0, a1_1, a1_2, bt168.1, bt171.1, 0, a1_6, false))) else (some (a1_0, a1_1, a1_2, bt168.1, bt171.1, 0, a1_6, false))))) else (none))) else (none)) = some (r1, r2, r3, r4, r5, r6, r7, r8) := by rw [if_neg (show ¬ (false = true) by decide)] at H; exact H
   clear H; have H := H1; clear H1
   by_cases c15 : 0 < (t164.length : Int)
   ·rw [if_pos c15] at H
    have c15b0 : decide (0 < (t164.length : Int)) = true := decide_eq_true c15
    have c15b1 : decide (0 < t164.length) = true := decide_eq_true (by omega)
    clear c15; replace H := Option.bind_eq_some_iff.mp H
    obtain ⟨⟨t168, t169⟩, A160, H⟩ := H
    replace H : (if 1 < (t164.length : Int) then ((spec_l4Digits.f kj3 (rdOf ByteArray.empty t164 1) 2 2).bind fun bt171 => (if (t164.length : Int) = 3 then (if 2 < (t164.length : Int) then ((spec_l4Digits.f kj3 (rdOf ByteArray.empty t164 2) 2 2).bind fun bt174 => (if t169 = true then (if bt171.2 = true then (some (a1_0, a1_1, a1_2, t168, bt171.1, bt174.1, a1_6, bt174.2)) else (some (a1_0, a1_1, a1_2, t168, bt171.1, bt174.1, a1_6, false))) else (some (a1_0, a1_1, a1_2, t168, bt171.1, bt174.1, a1_6, false)))) else (none)) else (if t169 = true then (if bt171.2 = true then (some (a1_0, a1_1, a1_2, t168, bt171.1, 0, a1_6, true)) else (some (a1_0, a1_1, a1_2, t168, bt171.1, 0, a1_6, false))) else (some (a1_0, a1_1, a1_2, t168, bt171.1, 0, a1_6, false))))) else (none)) = some (r1, r2, r3, r4, r5, r6, r7, r8) := H
    have A16 := Aside0.mk A160; clear A160
    by_cases c17 : 1 < (t164.length : Int)
    ·rw [if_pos c17] at H
     have c17b0 : decide (1 < (t164.length : Int)) = true := decide_eq_true c17
     have c17b1 : decide (1 < t164.length) = true := decide_eq_true (by omega)
     clear c17; replace H := Option.bind_eq_some_iff.mp H
     obtain ⟨⟨t171, t172⟩, A180, H⟩ := H
     replace H : (if (t164.length : Int) = 3 then (if 2 < (t164.length : Int) then ((spec_l4Digits.f kj3 (rdOf ByteArray.empty t164 2) 2 2).bind fun bt174 => (if t169 = true then (if t172 = true then (some (a1_0, a1_1, a1_2, t168, t171, bt174.1, a1_6, bt174.2)) else (some (a1_0, a1_1, a1_2, t168, t171, bt174.1, a1_6, false))) else (some (a1_0, a1_1, a1_2, t168, t171, bt174.1, a1_6, false)))) else (none)) else (if t169 = true then (if t172 = true then (some (a1_0, a1_1, a1_2, t168, t171, 0, a1_6, true)) else (some (a1_0, a1_1, a1_2, t168, t171, 0, a1_6, false))) else (some (a1_0, a1_1, a1_2, t168, t171, 0, a1_6, false)))) = some (r1, r2, r3, r4, r5, r6, r7, r8) := H
     have A18 := Aside0.mk A180; clear A180
     by_cases c19 : (t164.length : Int) = 3
     ·rw [if_pos c19] at H
      have c19b0 : ((t164.length : Int) == 3) = true := beq_iff_eq.mpr c19
      have c19b1 : ((t164.length : Int) != 3) = false := bne_eq_false_iff_eq.mpr c19
      clear c19
      by_cases c20 : 2 < (t164.length : Int)
      ·rw [if_pos c20] at H
       have c20b0 : decide (2 < (t164.length : Int)) = true := decide_eq_true c20
       have c20b1 : decide (2 < t164.length) = true := decide_eq_true (by omega)
       clear c20; replace H := Option.bind_eq_some_iff.mp H
       obtain ⟨⟨t174, t175⟩, A210, H⟩ := H
       replace H : (if t169 = true then (if t172 = true then (some (a1_0, a1_1, a1_2, t168, t171, t174, a1_6, t175)) else (some (a1_0, a1_1, a1_2, t168, t171, t174, a1_6, false))) else (some (a1_0, a1_1, a1_2, t168, t171, t174, a1_6, false))) = some (r1, r2, r3, r4, r5, r6, r7, r8) := H
       have A21 := Aside0.mk A210; clear A210
       by_cases c22 : t169 = true
       ·subst c22
        have H1 : (if t172 = true then (some (a1_0, a1_1, a1_2, t168, t171, t174, a1_6, t175)) else (some (a1_0, a1_1, a1_2, t168, t171, t174, a1_6, false))) = some (r1, r2, r3, r4, r5, r6, r7, r8) := by rw [if_pos rfl] at H; exact H
        clear H; have H := H1; clear H1
        by_cases c23 : t172 = true
        ·subst c23
         have H1 : (some (a1_0, a1_1, a1_2, t168, t171, t174, a1_6, t175)) = some (r1, r2, r3, r4, r5, r6, r7, r8) := by rw [if_pos rfl] at H; exact H
         clear H; have H := H1; clear H1
         simp only [Option.some.injEq, Prod.mk.injEq] at H
         obtain ⟨rfl, rfl, rfl, rfl, rfl, rfl, rfl, rfl⟩ := H
         obtain ⟨Ao24, co24, eo24⟩ := Kd.R_slice HO_6.out
         subst eo24
         have p167 : 0 ≤ (0 : Int) := (by omega)
         have q167 : 0 < (t164.length : Int) := of_decide_eq_true (by first | (with_reducible assumption) | assumption)
         (try (obtain ⟨Ay_, cy_, ey_⟩ := Kd.R_slice HO_6.out; subst ey_))
         obtain ⟨ad167, e167, hx167_0⟩ := Kd.at_string (Kd.R_reads' HO_6.out).2.2 0 p167 q167
         cases e167
         have qi167 : (0 < t164.length) = True := eq_true (by omega)
         (try rw [show ((0 : Int)).toNat = 0 from rfl] at hx167_0)
         (try rw [Addr.add_zero'] at hx167_0)
         replace p167 := eq_true p167; replace q167 := eq_true q167
         go_wp2_with (first | ((with_reducible refine gate_callee (f := 44) rfl ?_); refine goesL_ (some 28) rfl rfl Tryd.func44 (by kernel_rfl) rfl #[.string (rdOf ByteArray.empty t164 0), .int .i64 2, .int .i64 2] rfl (by (try simp only [List.map_toArray, List.map_cons, List.map_nil]); first | done | rfl | (simp only [List.length_drop, List.length_take]; rfl)) ?_; (with_reducible refine (spec_l4Digits.calls kj3 (rdOf ByteArray.empty t164 0) 2 2 t168 true _ A16.out).mono ?_); rintro e w' ⟨rfl, ⟨nd, rfl⟩⟩; refine ⟨_, rfl, ?_⟩; (try (rw [drewN_self wc]; generalize hq_ : World.drewN wc _ = wc; have n0_ : Aside0 (Kd.R Kd.string 9 wc w.heap.size (fun _ => True) (.slice (some ad167) t164.length co24) t164) := ⟨by rw [← hq_]; exact (by (with_reducible repeat (first | apply Kd.R_alloc | apply Kd.R_drewN | apply Kd.R_drew)); exact HO_6.out)⟩; have n1_ : Aside0 (wc.heap[gb162]? = some (.cells #[.int .i64 a1_0, .int .i64 a1_1, .int .i64 a1_2, .int .i64 a1_3, .int .i64 a1_4, .int .i64 a1_5, .int .i64 a1_6] 24 (0, 0))) := ⟨by rw [← hq_]; exact (by (with_reducible repeat (first | refine Bf ?_ _ | refine Bh ?_ | refine Bg ?_ _)); exact BK162.out)⟩; have n2_ : Aside0 (wc.heap[gb163]? = some (.cells #[.int .i64 0, .int .i64 0, .int .i64 0, .int .i64 0, .int .i64 0, .int .i64 0, .int .i64 0] 24 (0, 0))) := ⟨by rw [← hq_]; exact (by (with_reducible repeat (first | refine Bf ?_ _ | refine Bh ?_ | refine Bg ?_ _)); exact BK163.out)⟩; have n3_ : Aside0 (Below w.heap.size w wc) := ⟨by rw [← hq_]; exact (by repeat (first | (with_reducible first | exact HB.out | apply Be | apply Bc | apply Bd | refine below_set ?_ GE162.out | refine below_set ?_ GE163.out) | exact HB.out))⟩; clear HO_6 BK162 BK163 HB hq_; have HO_6 := n0_; have BK162 := n1_; have BK163 := n2_; have HB := n3_; clear n0_ n1_ n2_ n3_)); have p170 : 0 ≤ (1 : Int) := (by omega); have q170 : 1 < (t164.length : Int) := of_decide_eq_true (by first | (with_reducible assumption) | assumption); obtain ⟨ad170, e170, hx170_0⟩ := Kd.at_string (Kd.R_reads' HO_6.out).2.2 1 p170 q170; obtain rfl : ad167 = ad170 := (by injection e170); (try simp only [show (1 : Int).toNat = 1 from rfl, Nat.reduceMul, Nat.reduceEqDiff, Go.Addr.add, ↓reduceIte] at hx170_0); have qi170 : (1 < t164.length) = True := eq_true (by omega); (try rw [show ((1 : Int)).toNat = 1 from rfl] at hx170_0); replace p170 := eq_true p170; replace q170 := eq_true q170) | ((with_reducible refine gate_callee (f := 44) rfl ?_); refine goesL_ (some 35) rfl rfl Tryd.func44 (by kernel_rfl) rfl #[.string (rdOf ByteArray.empty t164 1), .int .i64 2, .int .i64 2] rfl (by (try simp only [List.map_toArray, List.map_cons, List.map_nil]); first | done | rfl | (simp only [List.length_drop, List.length_take]; rfl)) ?_; (with_reducible refine (spec_l4Digits.calls kj3 (rdOf ByteArray.empty t164 1) 2 2 t171 true _ A18.out).mono ?_); rintro e w' ⟨rfl, ⟨nd, rfl⟩⟩; refine ⟨_, rfl, ?_⟩; (try (rw [drewN_self wc]; generalize hq_ : World.drewN wc _ = wc; have n0_ : Aside0 (Kd.R Kd.string 9 wc w.heap.size (fun _ => True) (.slice (some ad167) t164.length co24) t164) := ⟨by rw [← hq_]; exact (by (with_reducible repeat (first | apply Kd.R_alloc | apply Kd.R_drewN | apply Kd.R_drew)); exact HO_6.out)⟩; have n1_ : Aside0 (wc.heap[gb162]? = some (.cells #[.int .i64 a1_0, .int .i64 a1_1, .int .i64 a1_2, .int .i64 a1_3, .int .i64 a1_4, .int .i64 a1_5, .int .i64 a1_6] 24 (0, 0))) := ⟨by rw [← hq_]; exact (by (with_reducible repeat (first | refine Bf ?_ _ | refine Bh ?_ | refine Bg ?_ _)); exact BK162.out)⟩; have n2_ : Aside0 (wc.heap[gb163]? = some (.cells #[.int .i64 0, .int .i64 0, .int .i64 0, .int .i64 0, .int .i64 0, .int .i64 0, .int .i64 0] 24 (0, 0))) := ⟨by rw [← hq_]; exact (by (with_reducible repeat (first | refine Bf ?_ _ | refine Bh ?_ | refine Bg ?_ _)); exact BK163.out)⟩; have n3_ : Aside0 (Below w.heap.size w wc) := ⟨by rw [← hq_]; exact (by repeat (first | (with_reducible first | exact HB.out | apply Be | apply Bc | apply Bd | refine below_set ?_ GE162.out | refine below_set ?_ GE163.out) | exact HB.out))⟩; clear HO_6 BK162 BK163 HB hq_; have HO_6 := n0_; have BK162 := n1_; have BK163 := n2_; have HB := n3_; clear n0_ n1_ n2_ n3_)); have p173 : 0 ≤ (2 : Int) := (by omega); have q173 : 2 < (t164.length : Int) := of_decide_eq_true (by first | (with_reducible assumption) | assumption); obtain ⟨ad173, e173, hx173_0⟩ := Kd.at_string (Kd.R_reads' HO_6.out).2.2 2 p173 q173; obtain rfl : ad167 = ad173 := (by injection e173); (try simp only [show (2 : Int).toNat = 2 from rfl, Nat.reduceMul, Nat.reduceEqDiff, Go.Addr.add, ↓reduceIte] at hx173_0); have qi173 : (2 < t164.length) = True := eq_true (by omega); (try rw [show ((2 : Int)).toNat = 2 from rfl] at hx173_0); replace p173 := eq_true p173; replace q173 := eq_true q173) | ((with_reducible refine gate_callee (f := 44) rfl ?_); refine goesL_ (some 45) rfl rfl Tryd.func44 (by kernel_rfl) rfl #[.string (rdOf ByteArray.empty t164 2), .int .i64 2, .int .i64 2] rfl (by (try simp only [List.map_toArray, List.map_cons, List.map_nil]); first | done | rfl | (simp only [List.length_drop, List.length_take]; rfl)) ?_; (with_reducible refine (spec_l4Digits.calls kj3 (rdOf ByteArray.empty t164 2) 2 2 t174 t175 _ A21.out).mono ?_); rintro e w' ⟨rfl, ⟨nd, rfl⟩⟩; refine ⟨_, rfl, ?_⟩; (try (rw [drewN_self wc]; generalize hq_ : World.drewN wc _ = wc; have n0_ : Aside0 (Kd.R Kd.string 9 wc w.heap.size (fun _ => True) (.slice (some ad167) t164.length co24) t164) := ⟨by rw [← hq_]; exact (by (with_reducible repeat (first | apply Kd.R_alloc | apply Kd.R_drewN | apply Kd.R_drew)); exact HO_6.out)⟩; have n1_ : Aside0 (wc.heap[gb162]? = some (.cells #[.int .i64 a1_0, .int .i64 a1_1, .int .i64 a1_2, .int .i64 a1_3, .int .i64 a1_4, .int .i64 a1_5, .int .i64 a1_6] 24 (0, 0))) := ⟨by rw [← hq_]; exact (by (with_reducible repeat (first | refine Bf ?_ _ | refine Bh ?_ | refine Bg ?_ _)); exact BK162.out)⟩; have n2_ : Aside0 (wc.heap[gb163]? = some (.cells #[.int .i64 0, .int .i64 0, .int .i64 0, .int .i64 0, .int .i64 0, .int .i64 0, .int .i64 0] 24 (0, 0))) := ⟨by rw [← hq_]; exact (by (with_reducible repeat (first | refine Bf ?_ _ | refine Bh ?_ | refine Bg ?_ _)); exact BK163.out)⟩; have n3_ : Aside0 (Below w.heap.size w wc) := ⟨by rw [← hq_]; exact (by repeat (first | (with_reducible first | exact HB.out | apply Be | apply Bc | apply Bd | refine below_set ?_ GE162.out | refine below_set ?_ GE163.out) | exact HB.out))⟩; clear HO_6 BK162 BK163 HB hq_; have HO_6 := n0_; have BK162 := n1_; have BK163 := n2_; have HB := n3_; clear n0_ n1_ n2_ n3_)); have hnb25 := NB162_163.out; have hnc25 := NB163_162.out; have hcz26_0 : wc.cell? ⟨gb162, 0, none⟩ = some (.int .i64 a1_0) := (Ba BK162.out 0).trans rfl; have hcz26_1 : wc.cell? ⟨gb162, 1, none⟩ = some (.int .i64 a1_1) := (Ba BK162.out 1).trans rfl; have hcz26_2 : wc.cell? ⟨gb162, 2, none⟩ = some (.int .i64 a1_2) := (Ba BK162.out 2).trans rfl; have hcz26_3 : wc.cell? ⟨gb162, 3, none⟩ = some (.int .i64 a1_3) := (Ba BK162.out 3).trans rfl; have hcz26_4 : wc.cell? ⟨gb162, 4, none⟩ = some (.int .i64 a1_4) := (Ba BK162.out 4).trans rfl; have hcz26_5 : wc.cell? ⟨gb162, 5, none⟩ = some (.int .i64 a1_5) := (Ba BK162.out 5).trans rfl; have hcz26_6 : wc.cell? ⟨gb162, 6, none⟩ = some (.int .i64 a1_6) := (Ba BK162.out 6).trans rfl; have hfz26_0 := Bb BK162.out 0; have hfz26_1 := Bb BK162.out 1; have hfz26_2 := Bb BK162.out 2; have hfz26_3 := Bb BK162.out 3; have hfz26_4 := Bb BK162.out 4; have hfz26_5 := Bb BK162.out 5; have hfz26_6 := Bb BK162.out 6; have hcz27_0 : wc.cell? ⟨gb163, 0, none⟩ = some (.int .i64 0) := (Ba BK163.out 0).trans rfl; have hcz27_1 : wc.cell? ⟨gb163, 1, none⟩ = some (.int .i64 0) := (Ba BK163.out 1).trans rfl; have hcz27_2 : wc.cell? ⟨gb163, 2, none⟩ = some (.int .i64 0) := (Ba BK163.out 2).trans rfl; have hcz27_3 : wc.cell? ⟨gb163, 3, none⟩ = some (.int .i64 0) := (Ba BK163.out 3).trans rfl; have hcz27_4 : wc.cell? ⟨gb163, 4, none⟩ = some (.int .i64 0) := (Ba BK163.out 4).trans rfl; have hcz27_5 : wc.cell? ⟨gb163, 5, none⟩ = some (.int .i64 0) := (Ba BK163.out 5).trans rfl; have hcz27_6 : wc.cell? ⟨gb163, 6, none⟩ = some (.int .i64 0) := (Ba BK163.out 6).trans rfl; have hfz27_0 := Bb BK163.out 0; have hfz27_1 := Bb BK163.out 1; have hfz27_2 := Bb BK163.out 2; have hfz27_3 := Bb BK163.out 3; have hfz27_4 := Bb BK163.out 4; have hfz27_5 := Bb BK163.out 5; have hfz27_6 := Bb BK163.out 6))
         refine bodyPost_ret (results_ct rfl _ _ gb163 24 #[.int .i64 a1_0, .int .i64 a1_1, .int .i64 a1_2, .int .i64 t168, .int .i64 t171, .int .i64 t174, .int .i64 a1_6] (0, 0) _ rfl (by (with_reducible repeat (first | refine Bf ?_ _ | refine Bh ?_ | refine Bg ?_ _)); refine blk_put (cs := #[.int .i64 a1_0, .int .i64 a1_1, .int .i64 a1_2, .int .i64 t168, .int .i64 t171, .int .i64 t174, .int .i64 0]) ?_ 6 _ rfl; (with_reducible repeat (first | refine Bf ?_ _ | refine Bh ?_ | refine Bg ?_ _)); refine blk_put (cs := #[.int .i64 a1_0, .int .i64 a1_1, .int .i64 a1_2, .int .i64 t168, .int .i64 t171, .int .i64 0, .int .i64 0]) ?_ 5 _ rfl; (with_reducible repeat (first | refine Bf ?_ _ | refine Bh ?_ | refine Bg ?_ _)); refine blk_put (cs := #[.int .i64 a1_0, .int .i64 a1_1, .int .i64 a1_2, .int .i64 t168, .int .i64 0, .int .i64 0, .int .i64 0]) ?_ 4 _ rfl; (with_reducible repeat (first | refine Bf ?_ _ | refine Bh ?_ | refine Bg ?_ _)); refine blk_put (cs := #[.int .i64 a1_0, .int .i64 a1_1, .int .i64 a1_2, .int .i64 0, .int .i64 0, .int .i64 0, .int .i64 0]) ?_ 3 _ rfl; (with_reducible repeat (first | refine Bf ?_ _ | refine Bh ?_ | refine Bg ?_ _)); refine blk_put (cs := #[.int .i64 a1_0, .int .i64 a1_1, .int .i64 0, .int .i64 0, .int .i64 0, .int .i64 0, .int .i64 0]) ?_ 2 _ rfl; (with_reducible repeat (first | refine Bf ?_ _ | refine Bh ?_ | refine Bg ?_ _)); refine blk_put (cs := #[.int .i64 a1_0, .int .i64 0, .int .i64 0, .int .i64 0, .int .i64 0, .int .i64 0, .int .i64 0]) ?_ 1 _ rfl; (with_reducible repeat (first | refine Bf ?_ _ | refine Bh ?_ | refine Bg ?_ _)); refine blk_put (cs := #[.int .i64 0, .int .i64 0, .int .i64 0, .int .i64 0, .int .i64 0, .int .i64 0, .int .i64 0]) ?_ 0 _ rfl; (with_reducible repeat (first | refine Bf ?_ _ | refine Bh ?_ | refine Bg ?_ _)); refine blk_far ?_ NB163_162.out _; (with_reducible repeat (first | refine Bf ?_ _ | refine Bh ?_ | refine Bg ?_ _)); refine blk_far ?_ NB163_162.out _; (with_reducible repeat (first | refine Bf ?_ _ | refine Bh ?_ | refine Bg ?_ _)); refine blk_far ?_ NB163_162.out _; (with_reducible repeat (first | refine Bf ?_ _ | refine Bh ?_ | refine Bg ?_ _)); exact BK163.out) Tryd.underlying24 rfl (by kernel_rfl)) rfl ?_
         exact ⟨by first | rfl | (simp [errW_none, errW_some] <;> rfl) | (simp [*, errW_none, errW_some] <;> rfl), by repeat (first | (with_reducible first | exact HB.out | apply Be | apply Bc | apply Bd | refine below_set ?_ GE162.out | refine below_set ?_ GE163.out) | exact HB.out)⟩
        replace c23 := Bool.eq_false_iff.mpr c23
        subst c23
        have H1 : (some (a1_0, a1_1, a1_2, t168, t171, t174, a1_6, false)) = some (r1, r2, r3, r4, r5, r6, r7, r8) := by rw [if_neg (show ¬ (false = true) by decide)] at H; exact H
        clear H; have H := H1; clear H1
        simp only [Option.some.injEq, Prod.mk.injEq] at H
        obtain ⟨rfl, rfl, rfl, rfl, rfl, rfl, rfl, rfl⟩ := H
        obtain ⟨Ao28, co28, eo28⟩ := Kd.R_slice HO_6.out
        subst eo28
        have p167 : 0 ≤ (0 : Int) := (by omega)
        have q167 : 0 < (t164.length : Int) := of_decide_eq_true (by first | (with_reducible assumption) | assumption)
        (try (obtain ⟨Ay_, cy_, ey_⟩ := Kd.R_slice HO_6.out; subst ey_))
        obtain ⟨ad167, e167, hx167_0⟩ := Kd.at_string (Kd.R_reads' HO_6.out).2.2 0 p167 q167
        cases e167
        have qi167 : (0 < t164.length) = True := eq_true (by omega)
        (try rw [show ((0 : Int)).toNat = 0 from rfl] at hx167_0)
        (try rw [Addr.add_zero'] at hx167_0)
        replace p167 := eq_true p167; replace q167 := eq_true q167
        go_wp2_with (first | ((with_reducible refine gate_callee (f := 44) rfl ?_); refine goesL_ (some 28) rfl rfl Tryd.func44 (by kernel_rfl) rfl #[.string (rdOf ByteArray.empty t164 0), .int .i64 2, .int .i64 2] rfl (by (try simp only [List.map_toArray, List.map_cons, List.map_nil]); first | done | rfl | (simp only [List.length_drop, List.length_take]; rfl)) ?_; (with_reducible refine (spec_l4Digits.calls kj3 (rdOf ByteArray.empty t164 0) 2 2 t168 true _ A16.out).mono ?_); rintro e w' ⟨rfl, ⟨nd, rfl⟩⟩; refine ⟨_, rfl, ?_⟩; (try (rw [drewN_self wc]; generalize hq_ : World.drewN wc _ = wc; have n0_ : Aside0 (Kd.R Kd.string 9 wc w.heap.size (fun _ => True) (.slice (some ad167) t164.length co28) t164) := ⟨by rw [← hq_]; exact (by (with_reducible repeat (first | apply Kd.R_alloc | apply Kd.R_drewN | apply Kd.R_drew)); exact HO_6.out)⟩; have n1_ : Aside0 (wc.heap[gb162]? = some (.cells #[.int .i64 a1_0, .int .i64 a1_1, .int .i64 a1_2, .int .i64 a1_3, .int .i64 a1_4, .int .i64 a1_5, .int .i64 a1_6] 24 (0, 0))) := ⟨by rw [← hq_]; exact (by (with_reducible repeat (first | refine Bf ?_ _ | refine Bh ?_ | refine Bg ?_ _)); exact BK162.out)⟩; have n2_ : Aside0 (wc.heap[gb163]? = some (.cells #[.int .i64 0, .int .i64 0, .int .i64 0, .int .i64 0, .int .i64 0, .int .i64 0, .int .i64 0] 24 (0, 0))) := ⟨by rw [← hq_]; exact (by (with_reducible repeat (first | refine Bf ?_ _ | refine Bh ?_ | refine Bg ?_ _)); exact BK163.out)⟩; have n3_ : Aside0 (Below w.heap.size w wc) := ⟨by rw [← hq_]; exact (by repeat (first | (with_reducible first | exact HB.out | apply Be | apply Bc | apply Bd | refine below_set ?_ GE162.out | refine below_set ?_ GE163.out) | exact HB.out))⟩; clear HO_6 BK162 BK163 HB hq_; have HO_6 := n0_; have BK162 := n1_; have BK163 := n2_; have HB := n3_; clear n0_ n1_ n2_ n3_)); have p170 : 0 ≤ (1 : Int) := (by omega); have q170 : 1 < (t164.length : Int) := of_decide_eq_true (by first | (with_reducible assumption) | assumption); obtain ⟨ad170, e170, hx170_0⟩ := Kd.at_string (Kd.R_reads' HO_6.out).2.2 1 p170 q170; obtain rfl : ad167 = ad170 := (by injection e170); (try simp only [show (1 : Int).toNat = 1 from rfl, Nat.reduceMul, Nat.reduceEqDiff, Go.Addr.add, ↓reduceIte] at hx170_0); have qi170 : (1 < t164.length) = True := eq_true (by omega); (try rw [show ((1 : Int)).toNat = 1 from rfl] at hx170_0); replace p170 := eq_true p170; replace q170 := eq_true q170) | ((with_reducible refine gate_callee (f := 44) rfl ?_); refine goesL_ (some 35) rfl rfl Tryd.func44 (by kernel_rfl) rfl #[.string (rdOf ByteArray.empty t164 1), .int .i64 2, .int .i64 2] rfl (by (try simp only [List.map_toArray, List.map_cons, List.map_nil]); first | done | rfl | (simp only [List.length_drop, List.length_take]; rfl)) ?_; (with_reducible refine (spec_l4Digits.calls kj3 (rdOf ByteArray.empty t164 1) 2 2 t171 false _ A18.out).mono ?_); rintro e w' ⟨rfl, ⟨nd, rfl⟩⟩; refine ⟨_, rfl, ?_⟩; (try (rw [drewN_self wc]; generalize hq_ : World.drewN wc _ = wc; have n0_ : Aside0 (Kd.R Kd.string 9 wc w.heap.size (fun _ => True) (.slice (some ad167) t164.length co28) t164) := ⟨by rw [← hq_]; exact (by (with_reducible repeat (first | apply Kd.R_alloc | apply Kd.R_drewN | apply Kd.R_drew)); exact HO_6.out)⟩; have n1_ : Aside0 (wc.heap[gb162]? = some (.cells #[.int .i64 a1_0, .int .i64 a1_1, .int .i64 a1_2, .int .i64 a1_3, .int .i64 a1_4, .int .i64 a1_5, .int .i64 a1_6] 24 (0, 0))) := ⟨by rw [← hq_]; exact (by (with_reducible repeat (first | refine Bf ?_ _ | refine Bh ?_ | refine Bg ?_ _)); exact BK162.out)⟩; have n2_ : Aside0 (wc.heap[gb163]? = some (.cells #[.int .i64 0, .int .i64 0, .int .i64 0, .int .i64 0, .int .i64 0, .int .i64 0, .int .i64 0] 24 (0, 0))) := ⟨by rw [← hq_]; exact (by (with_reducible repeat (first | refine Bf ?_ _ | refine Bh ?_ | refine Bg ?_ _)); exact BK163.out)⟩; have n3_ : Aside0 (Below w.heap.size w wc) := ⟨by rw [← hq_]; exact (by repeat (first | (with_reducible first | exact HB.out | apply Be | apply Bc | apply Bd | refine below_set ?_ GE162.out | refine below_set ?_ GE163.out) | exact HB.out))⟩; clear HO_6 BK162 BK163 HB hq_; have HO_6 := n0_; have BK162 := n1_; have BK163 := n2_; have HB := n3_; clear n0_ n1_ n2_ n3_)); have p173 : 0 ≤ (2 : Int) := (by omega); have q173 : 2 < (t164.length : Int) := of_decide_eq_true (by first | (with_reducible assumption) | assumption); obtain ⟨ad173, e173, hx173_0⟩ := Kd.at_string (Kd.R_reads' HO_6.out).2.2 2 p173 q173; obtain rfl : ad167 = ad173 := (by injection e173); (try simp only [show (2 : Int).toNat = 2 from rfl, Nat.reduceMul, Nat.reduceEqDiff, Go.Addr.add, ↓reduceIte] at hx173_0); have qi173 : (2 < t164.length) = True := eq_true (by omega); (try rw [show ((2 : Int)).toNat = 2 from rfl] at hx173_0); replace p173 := eq_true p173; replace q173 := eq_true q173) | ((with_reducible refine gate_callee (f := 44) rfl ?_); refine goesL_ (some 45) rfl rfl Tryd.func44 (by kernel_rfl) rfl #[.string (rdOf ByteArray.empty t164 2), .int .i64 2, .int .i64 2] rfl (by (try simp only [List.map_toArray, List.map_cons, List.map_nil]); first | done | rfl | (simp only [List.length_drop, List.length_take]; rfl)) ?_; (with_reducible refine (spec_l4Digits.calls kj3 (rdOf ByteArray.empty t164 2) 2 2 t174 t175 _ A21.out).mono ?_); rintro e w' ⟨rfl, ⟨nd, rfl⟩⟩; refine ⟨_, rfl, ?_⟩; (try (rw [drewN_self wc]; generalize hq_ : World.drewN wc _ = wc; have n0_ : Aside0 (Kd.R Kd.string 9 wc w.heap.size (fun _ => True) (.slice (some ad167) t164.length co28) t164) := ⟨by rw [← hq_]; exact (by (with_reducible repeat (first | apply Kd.R_alloc | apply Kd.R_drewN | apply Kd.R_drew)); exact HO_6.out)⟩; have n1_ : Aside0 (wc.heap[gb162]? = some (.cells #[.int .i64 a1_0, .int .i64 a1_1, .int .i64 a1_2, .int .i64 a1_3, .int .i64 a1_4, .int .i64 a1_5, .int .i64 a1_6] 24 (0, 0))) := ⟨by rw [← hq_]; exact (by (with_reducible repeat (first | refine Bf ?_ _ | refine Bh ?_ | refine Bg ?_ _)); exact BK162.out)⟩; have n2_ : Aside0 (wc.heap[gb163]? = some (.cells #[.int .i64 0, .int .i64 0, .int .i64 0, .int .i64 0, .int .i64 0, .int .i64 0, .int .i64 0] 24 (0, 0))) := ⟨by rw [← hq_]; exact (by (with_reducible repeat (first | refine Bf ?_ _ | refine Bh ?_ | refine Bg ?_ _)); exact BK163.out)⟩; have n3_ : Aside0 (Below w.heap.size w wc) := ⟨by rw [← hq_]; exact (by repeat (first | (with_reducible first | exact HB.out | apply Be | apply Bc | apply Bd | refine below_set ?_ GE162.out | refine below_set ?_ GE163.out) | exact HB.out))⟩; clear HO_6 BK162 BK163 HB hq_; have HO_6 := n0_; have BK162 := n1_; have BK163 := n2_; have HB := n3_; clear n0_ n1_ n2_ n3_)); have hnb29 := NB162_163.out; have hnc29 := NB163_162.out; have hcz30_0 : wc.cell? ⟨gb162, 0, none⟩ = some (.int .i64 a1_0) := (Ba BK162.out 0).trans rfl; have hcz30_1 : wc.cell? ⟨gb162, 1, none⟩ = some (.int .i64 a1_1) := (Ba BK162.out 1).trans rfl; have hcz30_2 : wc.cell? ⟨gb162, 2, none⟩ = some (.int .i64 a1_2) := (Ba BK162.out 2).trans rfl; have hcz30_3 : wc.cell? ⟨gb162, 3, none⟩ = some (.int .i64 a1_3) := (Ba BK162.out 3).trans rfl; have hcz30_4 : wc.cell? ⟨gb162, 4, none⟩ = some (.int .i64 a1_4) := (Ba BK162.out 4).trans rfl; have hcz30_5 : wc.cell? ⟨gb162, 5, none⟩ = some (.int .i64 a1_5) := (Ba BK162.out 5).trans rfl; have hcz30_6 : wc.cell? ⟨gb162, 6, none⟩ = some (.int .i64 a1_6) := (Ba BK162.out 6).trans rfl; have hfz30_0 := Bb BK162.out 0; have hfz30_1 := Bb BK162.out 1; have hfz30_2 := Bb BK162.out 2; have hfz30_3 := Bb BK162.out 3; have hfz30_4 := Bb BK162.out 4; have hfz30_5 := Bb BK162.out 5; have hfz30_6 := Bb BK162.out 6; have hcz31_0 : wc.cell? ⟨gb163, 0, none⟩ = some (.int .i64 0) := (Ba BK163.out 0).trans rfl; have hcz31_1 : wc.cell? ⟨gb163, 1, none⟩ = some (.int .i64 0) := (Ba BK163.out 1).trans rfl; have hcz31_2 : wc.cell? ⟨gb163, 2, none⟩ = some (.int .i64 0) := (Ba BK163.out 2).trans rfl; have hcz31_3 : wc.cell? ⟨gb163, 3, none⟩ = some (.int .i64 0) := (Ba BK163.out 3).trans rfl; have hcz31_4 : wc.cell? ⟨gb163, 4, none⟩ = some (.int .i64 0) := (Ba BK163.out 4).trans rfl; have hcz31_5 : wc.cell? ⟨gb163, 5, none⟩ = some (.int .i64 0) := (Ba BK163.out 5).trans rfl; have hcz31_6 : wc.cell? ⟨gb163, 6, none⟩ = some (.int .i64 0) := (Ba BK163.out 6).trans rfl; have hfz31_0 := Bb BK163.out 0; have hfz31_1 := Bb BK163.out 1; have hfz31_2 := Bb BK163.out 2; have hfz31_3 := Bb BK163.out 3; have hfz31_4 := Bb BK163.out 4; have hfz31_5 := Bb BK163.out 5; have hfz31_6 := Bb BK163.out 6))
        refine bodyPost_ret (results_ct rfl _ _ gb163 24 #[.int .i64 a1_0, .int .i64 a1_1, .int .i64 a1_2, .int .i64 t168, .int .i64 t171, .int .i64 t174, .int .i64 a1_6] (0, 0) _ rfl (by (with_reducible repeat (first | refine Bf ?_ _ | refine Bh ?_ | refine Bg ?_ _)); refine blk_put (cs := #[.int .i64 a1_0, .int .i64 a1_1, .int .i64 a1_2, .int .i64 t168, .int .i64 t171, .int .i64 t174, .int .i64 0]) ?_ 6 _ rfl; (with_reducible repeat (first | refine Bf ?_ _ | refine Bh ?_ | refine Bg ?_ _)); refine blk_put (cs := #[.int .i64 a1_0, .int .i64 a1_1, .int .i64 a1_2, .int .i64 t168, .int .i64 t171, .int .i64 0, .int .i64 0]) ?_ 5 _ rfl; (with_reducible repeat (first | refine Bf ?_ _ | refine Bh ?_ | refine Bg ?_ _)); refine blk_put (cs := #[.int .i64 a1_0, .int .i64 a1_1, .int .i64 a1_2, .int .i64 t168, .int .i64 0, .int .i64 0, .int .i64 0]) ?_ 4 _ rfl; (with_reducible repeat (first | refine Bf ?_ _ | refine Bh ?_ | refine Bg ?_ _)); refine blk_put (cs := #[.int .i64 a1_0, .int .i64 a1_1, .int .i64 a1_2, .int .i64 0, .int .i64 0, .int .i64 0, .int .i64 0]) ?_ 3 _ rfl; (with_reducible repeat (first | refine Bf ?_ _ | refine Bh ?_ | refine Bg ?_ _)); refine blk_put (cs := #[.int .i64 a1_0, .int .i64 a1_1, .int .i64 0, .int .i64 0, .int .i64 0, .int .i64 0, .int .i64 0]) ?_ 2 _ rfl; (with_reducible repeat (first | refine Bf ?_ _ | refine Bh ?_ | refine Bg ?_ _)); refine blk_put (cs := #[.int .i64 a1_0, .int .i64 0, .int .i64 0, .int .i64 0, .int .i64 0, .int .i64 0, .int .i64 0]) ?_ 1 _ rfl; (with_reducible repeat (first | refine Bf ?_ _ | refine Bh ?_ | refine Bg ?_ _)); refine blk_put (cs := #[.int .i64 0, .int .i64 0, .int .i64 0, .int .i64 0, .int .i64 0, .int .i64 0, .int .i64 0]) ?_ 0 _ rfl; (with_reducible repeat (first | refine Bf ?_ _ | refine Bh ?_ | refine Bg ?_ _)); refine blk_far ?_ NB163_162.out _; (with_reducible repeat (first | refine Bf ?_ _ | refine Bh ?_ | refine Bg ?_ _)); refine blk_far ?_ NB163_162.out _; (with_reducible repeat (first | refine Bf ?_ _ | refine Bh ?_ | refine Bg ?_ _)); refine blk_far ?_ NB163_162.out _; (with_reducible repeat (first | refine Bf ?_ _ | refine Bh ?_ | refine Bg ?_ _)); exact BK163.out) Tryd.underlying24 rfl (by kernel_rfl)) rfl ?_
        exact ⟨by first | rfl | (simp [errW_none, errW_some] <;> rfl) | (simp [*, errW_none, errW_some] <;> rfl), by repeat (first | (with_reducible first | exact HB.out | apply Be | apply Bc | apply Bd | refine below_set ?_ GE162.out | refine below_set ?_ GE163.out) | exact HB.out)⟩
       replace c22 := Bool.eq_false_iff.mpr c22
       subst c22
       have H1 : (some (a1_0, a1_1, a1_2, t168, t171, t174, a1_6, false)) = some (r1, r2, r3, r4, r5, r6, r7, r8) := by rw [if_neg (show ¬ (false = true) by decide)] at H; exact H
       clear H; have H := H1; clear H1
       simp only [Option.some.injEq, Prod.mk.injEq] at H
       obtain ⟨rfl, rfl, rfl, rfl, rfl, rfl, rfl, rfl⟩ := H
       obtain ⟨Ao32, co32, eo32⟩ := Kd.R_slice HO_6.out
       subst eo32
       have p167 : 0 ≤ (0 : Int) := (by omega)
       have q167 : 0 < (t164.length : Int) := of_decide_eq_true (by first | (with_reducible assumption) | assumption)
       (try (obtain ⟨Ay_, cy_, ey_⟩ := Kd.R_slice HO_6.out; subst ey_))
       obtain ⟨ad167, e167, hx167_0⟩ := Kd.at_string (Kd.R_reads' HO_6.out).2.2 0 p167 q167
       cases e167
       have qi167 : (0 < t164.length) = True := eq_true (by omega)
       (try rw [show ((0 : Int)).toNat = 0 from rfl] at hx167_0)
       (try rw [Addr.add_zero'] at hx167_0)
       replace p167 := eq_true p167; replace q167 := eq_true q167
       go_wp2_with (first | ((with_reducible refine gate_callee (f := 44) rfl ?_); refine goesL_ (some 28) rfl rfl Tryd.func44 (by kernel_rfl) rfl #[.string (rdOf ByteArray.empty t164 0), .int .i64 2, .int .i64 2] rfl (by (try simp only [List.map_toArray, List.map_cons, List.map_nil]); first | done | rfl | (simp only [List.length_drop, List.length_take]; rfl)) ?_; (with_reducible refine (spec_l4Digits.calls kj3 (rdOf ByteArray.empty t164 0) 2 2 t168 false _ A16.out).mono ?_); rintro e w' ⟨rfl, ⟨nd, rfl⟩⟩; refine ⟨_, rfl, ?_⟩; (try (rw [drewN_self wc]; generalize hq_ : World.drewN wc _ = wc; have n0_ : Aside0 (Kd.R Kd.string 9 wc w.heap.size (fun _ => True) (.slice (some ad167) t164.length co32) t164) := ⟨by rw [← hq_]; exact (by (with_reducible repeat (first | apply Kd.R_alloc | apply Kd.R_drewN | apply Kd.R_drew)); exact HO_6.out)⟩; have n1_ : Aside0 (wc.heap[gb162]? = some (.cells #[.int .i64 a1_0, .int .i64 a1_1, .int .i64 a1_2, .int .i64 a1_3, .int .i64 a1_4, .int .i64 a1_5, .int .i64 a1_6] 24 (0, 0))) := ⟨by rw [← hq_]; exact (by (with_reducible repeat (first | refine Bf ?_ _ | refine Bh ?_ | refine Bg ?_ _)); exact BK162.out)⟩; have n2_ : Aside0 (wc.heap[gb163]? = some (.cells #[.int .i64 0, .int .i64 0, .int .i64 0, .int .i64 0, .int .i64 0, .int .i64 0, .int .i64 0] 24 (0, 0))) := ⟨by rw [← hq_]; exact (by (with_reducible repeat (first | refine Bf ?_ _ | refine Bh ?_ | refine Bg ?_ _)); exact BK163.out)⟩; have n3_ : Aside0 (Below w.heap.size w wc) := ⟨by rw [← hq_]; exact (by repeat (first | (with_reducible first | exact HB.out | apply Be | apply Bc | apply Bd | refine below_set ?_ GE162.out | refine below_set ?_ GE163.out) | exact HB.out))⟩; clear HO_6 BK162 BK163 HB hq_; have HO_6 := n0_; have BK162 := n1_; have BK163 := n2_; have HB := n3_; clear n0_ n1_ n2_ n3_)); have p170 : 0 ≤ (1 : Int) := (by omega); have q170 : 1 < (t164.length : Int) := of_decide_eq_true (by first | (with_reducible assumption) | assumption); obtain ⟨ad170, e170, hx170_0⟩ := Kd.at_string (Kd.R_reads' HO_6.out).2.2 1 p170 q170; obtain rfl : ad167 = ad170 := (by injection e170); (try simp only [show (1 : Int).toNat = 1 from rfl, Nat.reduceMul, Nat.reduceEqDiff, Go.Addr.add, ↓reduceIte] at hx170_0); have qi170 : (1 < t164.length) = True := eq_true (by omega); (try rw [show ((1 : Int)).toNat = 1 from rfl] at hx170_0); replace p170 := eq_true p170; replace q170 := eq_true q170) | ((with_reducible refine gate_callee (f := 44) rfl ?_); refine goesL_ (some 35) rfl rfl Tryd.func44 (by kernel_rfl) rfl #[.string (rdOf ByteArray.empty t164 1), .int .i64 2, .int .i64 2] rfl (by (try simp only [List.map_toArray, List.map_cons, List.map_nil]); first | done | rfl | (simp only [List.length_drop, List.length_take]; rfl)) ?_; (with_reducible refine (spec_l4Digits.calls kj3 (rdOf ByteArray.empty t164 1) 2 2 t171 t172 _ A18.out).mono ?_); rintro e w' ⟨rfl, ⟨nd, rfl⟩⟩; refine ⟨_, rfl, ?_⟩; (try (rw [drewN_self wc]; generalize hq_ : World.drewN wc _ = wc; have n0_ : Aside0 (Kd.R Kd.string 9 wc w.heap.size (fun _ => True) (.slice (some ad167) t164.length co32) t164) := ⟨by rw [← hq_]; exact (by (with_reducible repeat (first | apply Kd.R_alloc | apply Kd.R_drewN | apply Kd.R_drew)); exact HO_6.out)⟩; have n1_ : Aside0 (wc.heap[gb162]? = some (.cells #[.int .i64 a1_0, .int .i64 a1_1, .int .i64 a1_2, .int .i64 a1_3, .int .i64 a1_4, .int .i64 a1_5, .int .i64 a1_6] 24 (0, 0))) := ⟨by rw [← hq_]; exact (by (with_reducible repeat (first | refine Bf ?_ _ | refine Bh ?_ | refine Bg ?_ _)); exact BK162.out)⟩; have n2_ : Aside0 (wc.heap[gb163]? = some (.cells #[.int .i64 0, .int .i64 0, .int .i64 0, .int .i64 0, .int .i64 0, .int .i64 0, .int .i64 0] 24 (0, 0))) := ⟨by rw [← hq_]; exact (by (with_reducible repeat (first | refine Bf ?_ _ | refine Bh ?_ | refine Bg ?_ _)); exact BK163.out)⟩; have n3_ : Aside0 (Below w.heap.size w wc) := ⟨by rw [← hq_]; exact (by repeat (first | (with_reducible first | exact HB.out | apply Be | apply Bc | apply Bd | refine below_set ?_ GE162.out | refine below_set ?_ GE163.out) | exact HB.out))⟩; clear HO_6 BK162 BK163 HB hq_; have HO_6 := n0_; have BK162 := n1_; have BK163 := n2_; have HB := n3_; clear n0_ n1_ n2_ n3_)); have p173 : 0 ≤ (2 : Int) := (by omega); have q173 : 2 < (t164.length : Int) := of_decide_eq_true (by first | (with_reducible assumption) | assumption); obtain ⟨ad173, e173, hx173_0⟩ := Kd.at_string (Kd.R_reads' HO_6.out).2.2 2 p173 q173; obtain rfl : ad167 = ad173 := (by injection e173); (try simp only [show (2 : Int).toNat = 2 from rfl, Nat.reduceMul, Nat.reduceEqDiff, Go.Addr.add, ↓reduceIte] at hx173_0); have qi173 : (2 < t164.length) = True := eq_true (by omega); (try rw [show ((2 : Int)).toNat = 2 from rfl] at hx173_0); replace p173 := eq_true p173; replace q173 := eq_true q173) | ((with_reducible refine gate_callee (f := 44) rfl ?_); refine goesL_ (some 45) rfl rfl Tryd.func44 (by kernel_rfl) rfl #[.string (rdOf ByteArray.empty t164 2), .int .i64 2, .int .i64 2] rfl (by (try simp only [List.map_toArray, List.map_cons, List.map_nil]); first | done | rfl | (simp only [List.length_drop, List.length_take]; rfl)) ?_; (with_reducible refine (spec_l4Digits.calls kj3 (rdOf ByteArray.empty t164 2) 2 2 t174 t175 _ A21.out).mono ?_); rintro e w' ⟨rfl, ⟨nd, rfl⟩⟩; refine ⟨_, rfl, ?_⟩; (try (rw [drewN_self wc]; generalize hq_ : World.drewN wc _ = wc; have n0_ : Aside0 (Kd.R Kd.string 9 wc w.heap.size (fun _ => True) (.slice (some ad167) t164.length co32) t164) := ⟨by rw [← hq_]; exact (by (with_reducible repeat (first | apply Kd.R_alloc | apply Kd.R_drewN | apply Kd.R_drew)); exact HO_6.out)⟩; have n1_ : Aside0 (wc.heap[gb162]? = some (.cells #[.int .i64 a1_0, .int .i64 a1_1, .int .i64 a1_2, .int .i64 a1_3, .int .i64 a1_4, .int .i64 a1_5, .int .i64 a1_6] 24 (0, 0))) := ⟨by rw [← hq_]; exact (by (with_reducible repeat (first | refine Bf ?_ _ | refine Bh ?_ | refine Bg ?_ _)); exact BK162.out)⟩; have n2_ : Aside0 (wc.heap[gb163]? = some (.cells #[.int .i64 0, .int .i64 0, .int .i64 0, .int .i64 0, .int .i64 0, .int .i64 0, .int .i64 0] 24 (0, 0))) := ⟨by rw [← hq_]; exact (by (with_reducible repeat (first | refine Bf ?_ _ | refine Bh ?_ | refine Bg ?_ _)); exact BK163.out)⟩; have n3_ : Aside0 (Below w.heap.size w wc) := ⟨by rw [← hq_]; exact (by repeat (first | (with_reducible first | exact HB.out | apply Be | apply Bc | apply Bd | refine below_set ?_ GE162.out | refine below_set ?_ GE163.out) | exact HB.out))⟩; clear HO_6 BK162 BK163 HB hq_; have HO_6 := n0_; have BK162 := n1_; have BK163 := n2_; have HB := n3_; clear n0_ n1_ n2_ n3_)); have hnb33 := NB162_163.out; have hnc33 := NB163_162.out; have hcz34_0 : wc.cell? ⟨gb162, 0, none⟩ = some (.int .i64 a1_0) := (Ba BK162.out 0).trans rfl; have hcz34_1 : wc.cell? ⟨gb162, 1, none⟩ = some (.int .i64 a1_1) := (Ba BK162.out 1).trans rfl; have hcz34_2 : wc.cell? ⟨gb162, 2, none⟩ = some (.int .i64 a1_2) := (Ba BK162.out 2).trans rfl; have hcz34_3 : wc.cell? ⟨gb162, 3, none⟩ = some (.int .i64 a1_3) := (Ba BK162.out 3).trans rfl; have hcz34_4 : wc.cell? ⟨gb162, 4, none⟩ = some (.int .i64 a1_4) := (Ba BK162.out 4).trans rfl; have hcz34_5 : wc.cell? ⟨gb162, 5, none⟩ = some (.int .i64 a1_5) := (Ba BK162.out 5).trans rfl; have hcz34_6 : wc.cell? ⟨gb162, 6, none⟩ = some (.int .i64 a1_6) := (Ba BK162.out 6).trans rfl; have hfz34_0 := Bb BK162.out 0; have hfz34_1 := Bb BK162.out 1; have hfz34_2 := Bb BK162.out 2; have hfz34_3 := Bb BK162.out 3; have hfz34_4 := Bb BK162.out 4; have hfz34_5 := Bb BK162.out 5; have hfz34_6 := Bb BK162.out 6; have hcz35_0 : wc.cell? ⟨gb163, 0, none⟩ = some (.int .i64 0) := (Ba BK163.out 0).trans rfl; have hcz35_1 : wc.cell? ⟨gb163, 1, none⟩ = some (.int .i64 0) := (Ba BK163.out 1).trans rfl; have hcz35_2 : wc.cell? ⟨gb163, 2, none⟩ = some (.int .i64 0) := (Ba BK163.out 2).trans rfl; have hcz35_3 : wc.cell? ⟨gb163, 3, none⟩ = some (.int .i64 0) := (Ba BK163.out 3).trans rfl; have hcz35_4 : wc.cell? ⟨gb163, 4, none⟩ = some (.int .i64 0) := (Ba BK163.out 4).trans rfl; have hcz35_5 : wc.cell? ⟨gb163, 5, none⟩ = some (.int .i64 0) := (Ba BK163.out 5).trans rfl; have hcz35_6 : wc.cell? ⟨gb163, 6, none⟩ = some (.int .i64 0) := (Ba BK163.out 6).trans rfl; have hfz35_0 := Bb BK163.out 0; have hfz35_1 := Bb BK163.out 1; have hfz35_2 := Bb BK163.out 2; have hfz35_3 := Bb BK163.out 3; have hfz35_4 := Bb BK163.out 4; have hfz35_5 := Bb BK163.out 5; have hfz35_6 := Bb BK163.out 6))
       refine bodyPost_ret (results_ct rfl _ _ gb163 24 #[.int .i64 a1_0, .int .i64 a1_1, .int .i64 a1_2, .int .i64 t168, .int .i64 t171, .int .i64 t174, .int .i64 a1_6] (0, 0) _ rfl (by (with_reducible repeat (first | refine Bf ?_ _ | refine Bh ?_ | refine Bg ?_ _)); refine blk_put (cs := #[.int .i64 a1_0, .int .i64 a1_1, .int .i64 a1_2, .int .i64 t168, .int .i64 t171, .int .i64 t174, .int .i64 0]) ?_ 6 _ rfl; (with_reducible repeat (first | refine Bf ?_ _ | refine Bh ?_ | refine Bg ?_ _)); refine blk_put (cs := #[.int .i64 a1_0, .int .i64 a1_1, .int .i64 a1_2, .int .i64 t168, .int .i64 t171, .int .i64 0, .int .i64 0]) ?_ 5 _ rfl; (with_reducible repeat (first | refine Bf ?_ _ | refine Bh ?_ | refine Bg ?_ _)); refine blk_put (cs := #[.int .i64 a1_0, .int .i64 a1_1, .int .i64 a1_2, .int .i64 t168, .int .i64 0, .int .i64 0, .int .i64 0]) ?_ 4 _ rfl; (with_reducible repeat (first | refine Bf ?_ _ | refine Bh ?_ | refine Bg ?_ _)); refine blk_put (cs := #[.int .i64 a1_0, .int .i64 a1_1, .int .i64 a1_2, .int .i64 0, .int .i64 0, .int .i64 0, .int .i64 0]) ?_ 3 _ rfl; (with_reducible repeat (first | refine Bf ?_ _ | refine Bh ?_ | refine Bg ?_ _)); refine blk_put (cs := #[.int .i64 a1_0, .int .i64 a1_1, .int .i64 0, .int .i64 0, .int .i64 0, .int .i64 0, .int .i64 0]) ?_ 2 _ rfl; (with_reducible repeat (first | refine Bf ?_ _ | refine Bh ?_ | refine Bg ?_ _)); refine blk_put (cs := #[.int .i64 a1_0, .int .i64 0, .int .i64 0, .int .i64 0, .int .i64 0, .int .i64 0, .int .i64 0]) ?_ 1 _ rfl; (with_reducible repeat (first | refine Bf ?_ _ | refine Bh ?_ | refine Bg ?_ _)); refine blk_put (cs := #[.int .i64 0, .int .i64 0, .int .i64 0, .int .i64 0, .int .i64 0, .int .i64 0, .int .i64 0]) ?_ 0 _ rfl; (with_reducible repeat (first | refine Bf ?_ _ | refine Bh ?_ | refine Bg ?_ _)); refine blk_far ?_ NB163_162.out _; (with_reducible repeat (first | refine Bf ?_ _ | refine Bh ?_ | refine Bg ?_ _)); refine blk_far ?_ NB163_162.out _; (with_reducible repeat (first | refine Bf ?_ _ | refine Bh ?_ | refine Bg ?_ _)); refine blk_far ?_ NB163_162.out _; (with_reducible repeat (first | refine Bf ?_ _ | refine Bh ?_ | refine Bg ?_ _)); exact BK163.out) Tryd.underlying24 rfl (by kernel_rfl)) rfl ?_
       exact ⟨by first | rfl | (simp [errW_none, errW_some] <;> rfl) | (simp [*, errW_none, errW_some] <;> rfl), by repeat (first | (with_reducible first | exact HB.out | apply Be | apply Bc | apply Bd | refine below_set ?_ GE162.out | refine below_set ?_ GE163.out) | exact HB.out)⟩
      rw [if_neg c20] at H
      exact absurd H (by simp)
     rw [if_neg c19] at H
     have c19b0 : ((t164.length : Int) == 3) = false := beq_eq_false_iff_ne.mpr c19
     have c19b1 : ((t164.length : Int) != 3) = true := bne_iff_ne.mpr c19
     by_cases c36 : t169 = true
     ·subst c36
      have H1 : (if t172 = true then (some (a1_0, a1_1, a1_2, t168, t171, 0, a1_6, true)) else (some (a1_0, a1_1, a1_2, t168, t171, 0, a1_6, false))) = some (r1, r2, r3, r4, r5, r6, r7, r8) := by rw [if_pos rfl] at H; exact H
      clear H; have H := H1; clear H1
      by_cases c37 : t172 = true
      ·subst c37
       have H1 : (some (a1_0, a1_1, a1_2, t168, t171, 0, a1_6, true)) = some (r1, r2, r3, r4, r5, r6, r7, r8) := by rw [if_pos rfl] at H; exact H
       clear H; have H := H1; clear H1
       simp only [Option.some.injEq, Prod.mk.injEq] at H
       obtain ⟨rfl, rfl, rfl, rfl, rfl, rfl, rfl, rfl⟩ := H
       obtain ⟨Ao38, co38, eo38⟩ := Kd.R_slice HO_6.out
       subst eo38
       have p167 : 0 ≤ (0 : Int) := (by omega)
       have q167 : 0 < (t164.length : Int) := of_decide_eq_true (by first | (with_reducible assumption) | assumption)
       (try (obtain ⟨Ay_, cy_, ey_⟩ := Kd.R_slice HO_6.out; subst ey_))
       obtain ⟨ad167, e167, hx167_0⟩ := Kd.at_string (Kd.R_reads' HO_6.out).2.2 0 p167 q167
       cases e167
       have qi167 : (0 < t164.length) = True := eq_true (by omega)
       (try rw [show ((0 : Int)).toNat = 0 from rfl] at hx167_0)
       (try rw [Addr.add_zero'] at hx167_0)
       replace p167 := eq_true p167; replace q167 := eq_true q167
       go_wp2_with (first | ((with_reducible refine gate_callee (f := 44) rfl ?_); refine goesL_ (some 28) rfl rfl Tryd.func44 (by kernel_rfl) rfl #[.string (rdOf ByteArray.empty t164 0), .int .i64 2, .int .i64 2] rfl (by (try simp only [List.map_toArray, List.map_cons, List.map_nil]); first | done | rfl | (simp only [List.length_drop, List.length_take]; rfl)) ?_; (with_reducible refine (spec_l4Digits.calls kj3 (rdOf ByteArray.empty t164 0) 2 2 t168 true _ A16.out).mono ?_); rintro e w' ⟨rfl, ⟨nd, rfl⟩⟩; refine ⟨_, rfl, ?_⟩; (try (rw [drewN_self wc]; generalize hq_ : World.drewN wc _ = wc; have n0_ : Aside0 (Kd.R Kd.string 9 wc w.heap.size (fun _ => True) (.slice (some ad167) t164.length co38) t164) := ⟨by rw [← hq_]; exact (by (with_reducible repeat (first | apply Kd.R_alloc | apply Kd.R_drewN | apply Kd.R_drew)); exact HO_6.out)⟩; have n1_ : Aside0 (wc.heap[gb162]? = some (.cells #[.int .i64 a1_0, .int .i64 a1_1, .int .i64 a1_2, .int .i64 a1_3, .int .i64 a1_4, .int .i64 a1_5, .int .i64 a1_6] 24 (0, 0))) := ⟨by rw [← hq_]; exact (by (with_reducible repeat (first | refine Bf ?_ _ | refine Bh ?_ | refine Bg ?_ _)); exact BK162.out)⟩; have n2_ : Aside0 (wc.heap[gb163]? = some (.cells #[.int .i64 0, .int .i64 0, .int .i64 0, .int .i64 0, .int .i64 0, .int .i64 0, .int .i64 0] 24 (0, 0))) := ⟨by rw [← hq_]; exact (by (with_reducible repeat (first | refine Bf ?_ _ | refine Bh ?_ | refine Bg ?_ _)); exact BK163.out)⟩; have n3_ : Aside0 (Below w.heap.size w wc) := ⟨by rw [← hq_]; exact (by repeat (first | (with_reducible first | exact HB.out | apply Be | apply Bc | apply Bd | refine below_set ?_ GE162.out | refine below_set ?_ GE163.out) | exact HB.out))⟩; clear HO_6 BK162 BK163 HB hq_; have HO_6 := n0_; have BK162 := n1_; have BK163 := n2_; have HB := n3_; clear n0_ n1_ n2_ n3_)); have p170 : 0 ≤ (1 : Int) := (by omega); have q170 : 1 < (t164.length : Int) := of_decide_eq_true (by first | (with_reducible assumption) | assumption); obtain ⟨ad170, e170, hx170_0⟩ := Kd.at_string (Kd.R_reads' HO_6.out).2.2 1 p170 q170; obtain rfl : ad167 = ad170 := (by injection e170); (try simp only [show (1 : Int).toNat = 1 from rfl, Nat.reduceMul, Nat.reduceEqDiff, Go.Addr.add, ↓reduceIte] at hx170_0); have qi170 : (1 < t164.length) = True := eq_true (by omega); (try rw [show ((1 : Int)).toNat = 1 from rfl] at hx170_0); replace p170 := eq_true p170; replace q170 := eq_true q170) | ((with_reducible refine gate_callee (f := 44) rfl ?_); refine goesL_ (some 35) rfl rfl Tryd.func44 (by kernel_rfl) rfl #[.string (rdOf ByteArray.empty t164 1), .int .i64 2, .int .i64 2] rfl (by (try simp only [List.map_toArray, List.map_cons, List.map_nil]); first | done | rfl | (simp only [List.length_drop, List.length_take]; rfl)) ?_; (with_reducible refine (spec_l4Digits.calls kj3 (rdOf ByteArray.empty t164 1) 2 2 t171 true _ A18.out).mono ?_); rintro e w' ⟨rfl, ⟨nd, rfl⟩⟩; refine ⟨_, rfl, ?_⟩; (try (rw [drewN_self wc]; generalize hq_ : World.drewN wc _ = wc; have n0_ : Aside0 (Kd.R Kd.string 9 wc w.heap.size (fun _ => True) (.slice (some ad167) t164.length co38) t164) := ⟨by rw [← hq_]; exact (by (with_reducible repeat (first | apply Kd.R_alloc | apply Kd.R_drewN | apply Kd.R_drew)); exact HO_6.out)⟩; have n1_ : Aside0 (wc.heap[gb162]? = some (.cells #[.int .i64 a1_0, .int .i64 a1_1, .int .i64 a1_2, .int .i64 a1_3, .int .i64 a1_4, .int .i64 a1_5, .int .i64 a1_6] 24 (0, 0))) := ⟨by rw [← hq_]; exact (by (with_reducible repeat (first | refine Bf ?_ _ | refine Bh ?_ | refine Bg ?_ _)); exact BK162.out)⟩; have n2_ : Aside0 (wc.heap[gb163]? = some (.cells #[.int .i64 0, .int .i64 0, .int .i64 0, .int .i64 0, .int .i64 0, .int .i64 0, .int .i64 0] 24 (0, 0))) := ⟨by rw [← hq_]; exact (by (with_reducible repeat (first | refine Bf ?_ _ | refine Bh ?_ | refine Bg ?_ _)); exact BK163.out)⟩; have n3_ : Aside0 (Below w.heap.size w wc) := ⟨by rw [← hq_]; exact (by repeat (first | (with_reducible first | exact HB.out | apply Be | apply Bc | apply Bd | refine below_set ?_ GE162.out | refine below_set ?_ GE163.out) | exact HB.out))⟩; clear HO_6 BK162 BK163 HB hq_; have HO_6 := n0_; have BK162 := n1_; have BK163 := n2_; have HB := n3_; clear n0_ n1_ n2_ n3_)); have hnb39 := NB162_163.out; have hnc39 := NB163_162.out; have hcz40_0 : wc.cell? ⟨gb162, 0, none⟩ = some (.int .i64 a1_0) := (Ba BK162.out 0).trans rfl; have hcz40_1 : wc.cell? ⟨gb162, 1, none⟩ = some (.int .i64 a1_1) := (Ba BK162.out 1).trans rfl; have hcz40_2 : wc.cell? ⟨gb162, 2, none⟩ = some (.int .i64 a1_2) := (Ba BK162.out 2).trans rfl; have hcz40_3 : wc.cell? ⟨gb162, 3, none⟩ = some (.int .i64 a1_3) := (Ba BK162.out 3).trans rfl; have hcz40_4 : wc.cell? ⟨gb162, 4, none⟩ = some (.int .i64 a1_4) := (Ba BK162.out 4).trans rfl; have hcz40_5 : wc.cell? ⟨gb162, 5, none⟩ = some (.int .i64 a1_5) := (Ba BK162.out 5).trans rfl; have hcz40_6 : wc.cell? ⟨gb162, 6, none⟩ = some (.int .i64 a1_6) := (Ba BK162.out 6).trans rfl; have hfz40_0 := Bb BK162.out 0; have hfz40_1 := Bb BK162.out 1; have hfz40_2 := Bb BK162.out 2; have hfz40_3 := Bb BK162.out 3; have hfz40_4 := Bb BK162.out 4; have hfz40_5 := Bb BK162.out 5; have hfz40_6 := Bb BK162.out 6; have hcz41_0 : wc.cell? ⟨gb163, 0, none⟩ = some (.int .i64 0) := (Ba BK163.out 0).trans rfl; have hcz41_1 : wc.cell? ⟨gb163, 1, none⟩ = some (.int .i64 0) := (Ba BK163.out 1).trans rfl; have hcz41_2 : wc.cell? ⟨gb163, 2, none⟩ = some (.int .i64 0) := (Ba BK163.out 2).trans rfl; have hcz41_3 : wc.cell? ⟨gb163, 3, none⟩ = some (.int .i64 0) := (Ba BK163.out 3).trans rfl; have hcz41_4 : wc.cell? ⟨gb163, 4, none⟩ = some (.int .i64 0) := (Ba BK163.out 4).trans rfl; have hcz41_5 : wc.cell? ⟨gb163, 5, none⟩ = some (.int .i64 0) := (Ba BK163.out 5).trans rfl; have hcz41_6 : wc.cell? ⟨gb163, 6, none⟩ = some (.int .i64 0) := (Ba BK163.out 6).trans rfl; have hfz41_0 := Bb BK163.out 0; have hfz41_1 := Bb BK163.out 1; have hfz41_2 := Bb BK163.out 2; have hfz41_3 := Bb BK163.out 3; have hfz41_4 := Bb BK163.out 4; have hfz41_5 := Bb BK163.out 5; have hfz41_6 := Bb BK163.out 6))
       refine bodyPost_ret (results_ct rfl _ _ gb163 24 #[.int .i64 a1_0, .int .i64 a1_1, .int .i64 a1_2, .int .i64 t168, .int .i64 t171, .int .i64 0, .int .i64 a1_6] (0, 0) _ rfl (by (with_reducible repeat (first | refine Bf ?_ _ | refine Bh ?_ | refine Bg ?_ _)); refine blk_put (cs := #[.int .i64 a1_0, .int .i64 a1_1, .int .i64 a1_2, .int .i64 t168, .int .i64 t171, .int .i64 0, .int .i64 0]) ?_ 6 _ rfl; (with_reducible repeat (first | refine Bf ?_ _ | refine Bh ?_ | refine Bg ?_ _)); refine blk_put (cs := #[.int .i64 a1_0, .int .i64 a1_1, .int .i64 a1_2, .int .i64 t168, .int .i64 t171, .int .i64 0, .int .i64 0]) ?_ 5 _ rfl; (with_reducible repeat (first | refine Bf ?_ _ | refine Bh ?_ | refine Bg ?_ _)); refine blk_put (cs := #[.int .i64 a1_0, .int .i64 a1_1, .int .i64 a1_2, .int .i64 t168, .int .i64 0, .int .i64 0, .int .i64 0]) ?_ 4 _ rfl; (with_reducible repeat (first | refine Bf ?_ _ | refine Bh ?_ | refine Bg ?_ _)); refine blk_put (cs := #[.int .i64 a1_0, .int .i64 a1_1, .int .i64 a1_2, .int .i64 0, .int .i64 0, .int .i64 0, .int .i64 0]) ?_ 3 _ rfl; (with_reducible repeat (first | refine Bf ?_ _ | refine Bh ?_ | refine Bg ?_ _)); refine blk_put (cs := #[.int .i64 a1_0, .int .i64 a1_1, .int .i64 0, .int .i64 0, .int .i64 0, .int .i64 0, .int .i64 0]) ?_ 2 _ rfl; (with_reducible repeat (first | refine Bf ?_ _ | refine Bh ?_ | refine Bg ?_ _)); refine blk_put (cs := #[.int .i64 a1_0, .int .i64 0, .int .i64 0, .int .i64 0, .int .i64 0, .int .i64 0, .int .i64 0]) ?_ 1 _ rfl; (with_reducible repeat (first | refine Bf ?_ _ | refine Bh ?_ | refine Bg ?_ _)); refine blk_put (cs := #[.int .i64 0, .int .i64 0, .int .i64 0, .int .i64 0, .int .i64 0, .int .i64 0, .int .i64 0]) ?_ 0 _ rfl; (with_reducible repeat (first | refine Bf ?_ _ | refine Bh ?_ | refine Bg ?_ _)); refine blk_far ?_ NB163_162.out _; (with_reducible repeat (first | refine Bf ?_ _ | refine Bh ?_ | refine Bg ?_ _)); refine blk_far ?_ NB163_162.out _; (with_reducible repeat (first | refine Bf ?_ _ | refine Bh ?_ | refine Bg ?_ _)); refine blk_far ?_ NB163_162.out _; (with_reducible repeat (first | refine Bf ?_ _ | refine Bh ?_ | refine Bg ?_ _)); exact BK163.out) Tryd.underlying24 rfl (by kernel_rfl)) rfl ?_
       exact ⟨by first | rfl | (simp [errW_none, errW_some] <;> rfl) | (simp [*, errW_none, errW_some] <;> rfl), by repeat (first | (with_reducible first | exact HB.out | apply Be | apply Bc | apply Bd | refine below_set ?_ GE162.out | refine below_set ?_ GE163.out) | exact HB.out)⟩
      replace c37 := Bool.eq_false_iff.mpr c37
      subst c37
      have H1 : (some (a1_0, a1_1, a1_2, t168, t171, 0, a1_6, false)) = some (r1, r2, r3, r4, r5, r6, r7, r8) := by rw [if_neg (show ¬ (false = true) by decide)] at H; exact H
      clear H; have H := H1; clear H1
      simp only [Option.some.injEq, Prod.mk.injEq] at H
      obtain ⟨rfl, rfl, rfl, rfl, rfl, rfl, rfl, rfl⟩ := H
      obtain ⟨Ao42, co42, eo42⟩ := Kd.R_slice HO_6.out
      subst eo42
      have p167 : 0 ≤ (0 : Int) := (by omega)
      have q167 : 0 < (t164.length : Int) := of_decide_eq_true (by first | (with_reducible assumption) | assumption)
      (try (obtain ⟨Ay_, cy_, ey_⟩ := Kd.R_slice HO_6.out; subst ey_))
      obtain ⟨ad167, e167, hx167_0⟩ := Kd.at_string (Kd.R_reads' HO_6.out).2.2 0 p167 q167
      cases e167
      have qi167 : (0 < t164.length) = True := eq_true (by omega)
      (try rw [show ((0 : Int)).toNat = 0 from rfl] at hx167_0)
      (try rw [Addr.add_zero'] at hx167_0)
      replace p167 := eq_true p167; replace q167 := eq_true q167
      go_wp2_with (first | ((with_reducible refine gate_callee (f := 44) rfl ?_); refine goesL_ (some 28) rfl rfl Tryd.func44 (by kernel_rfl) rfl #[.string (rdOf ByteArray.empty t164 0), .int .i64 2, .int .i64 2] rfl (by (try simp only [List.map_toArray, List.map_cons, List.map_nil]); first | done | rfl | (simp only [List.length_drop, List.length_take]; rfl)) ?_; (with_reducible refine (spec_l4Digits.calls kj3 (rdOf ByteArray.empty t164 0) 2 2 t168 true _ A16.out).mono ?_); rintro e w' ⟨rfl, ⟨nd, rfl⟩⟩; refine ⟨_, rfl, ?_⟩; (try (rw [drewN_self wc]; generalize hq_ : World.drewN wc _ = wc; have n0_ : Aside0 (Kd.R Kd.string 9 wc w.heap.size (fun _ => True) (.slice (some ad167) t164.length co42) t164) := ⟨by rw [← hq_]; exact (by (with_reducible repeat (first | apply Kd.R_alloc | apply Kd.R_drewN | apply Kd.R_drew)); exact HO_6.out)⟩; have n1_ : Aside0 (wc.heap[gb162]? = some (.cells #[.int .i64 a1_0, .int .i64 a1_1, .int .i64 a1_2, .int .i64 a1_3, .int .i64 a1_4, .int .i64 a1_5, .int .i64 a1_6] 24 (0, 0))) := ⟨by rw [← hq_]; exact (by (with_reducible repeat (first | refine Bf ?_ _ | refine Bh ?_ | refine Bg ?_ _)); exact BK162.out)⟩; have n2_ : Aside0 (wc.heap[gb163]? = some (.cells #[.int .i64 0, .int .i64 0, .int .i64 0, .int .i64 0, .int .i64 0, .int .i64 0, .int .i64 0] 24 (0, 0))) := ⟨by rw [← hq_]; exact (by (with_reducible repeat (first | refine Bf ?_ _ | refine Bh ?_ | refine Bg ?_ _)); exact BK163.out)⟩; have n3_ : Aside0 (Below w.heap.size w wc) := ⟨by rw [← hq_]; exact (by repeat (first | (with_reducible first | exact HB.out | apply Be | apply Bc | apply Bd | refine below_set ?_ GE162.out | refine below_set ?_ GE163.out) | exact HB.out))⟩; clear HO_6 BK162 BK163 HB hq_; have HO_6 := n0_; have BK162 := n1_; have BK163 := n2_; have HB := n3_; clear n0_ n1_ n2_ n3_)); have p170 : 0 ≤ (1 : Int) := (by omega); have q170 : 1 < (t164.length : Int) := of_decide_eq_true (by first | (with_reducible assumption) | assumption); obtain ⟨ad170, e170, hx170_0⟩ := Kd.at_string (Kd.R_reads' HO_6.out).2.2 1 p170 q170; obtain rfl : ad167 = ad170 := (by injection e170); (try simp only [show (1 : Int).toNat = 1 from rfl, Nat.reduceMul, Nat.reduceEqDiff, Go.Addr.add, ↓reduceIte] at hx170_0); have qi170 : (1 < t164.length) = True := eq_true (by omega); (try rw [show ((1 : Int)).toNat = 1 from rfl] at hx170_0); replace p170 := eq_true p170; replace q170 := eq_true q170) | ((with_reducible refine gate_callee (f := 44) rfl ?_); refine goesL_ (some 35) rfl rfl Tryd.func44 (by kernel_rfl) rfl #[.string (rdOf ByteArray.empty t164 1), .int .i64 2, .int .i64 2] rfl (by (try simp only [List.map_toArray, List.map_cons, List.map_nil]); first | done | rfl | (simp only [List.length_drop, List.length_take]; rfl)) ?_; (with_reducible refine (spec_l4Digits.calls kj3 (rdOf ByteArray.empty t164 1) 2 2 t171 false _ A18.out).mono ?_); rintro e w' ⟨rfl, ⟨nd, rfl⟩⟩; refine ⟨_, rfl, ?_⟩; (try (rw [drewN_self wc]; generalize hq_ : World.drewN wc _ = wc; have n0_ : Aside0 (Kd.R Kd.string 9 wc w.heap.size (fun _ => True) (.slice (some ad167) t164.length co42) t164) := ⟨by rw [← hq_]; exact (by (with_reducible repeat (first | apply Kd.R_alloc | apply Kd.R_drewN | apply Kd.R_drew)); exact HO_6.out)⟩; have n1_ : Aside0 (wc.heap[gb162]? = some (.cells #[.int .i64 a1_0, .int .i64 a1_1, .int .i64 a1_2, .int .i64 a1_3, .int .i64 a1_4, .int .i64 a1_5, .int .i64 a1_6] 24 (0, 0))) := ⟨by rw [← hq_]; exact (by (with_reducible repeat (first | refine Bf ?_ _ | refine Bh ?_ | refine Bg ?_ _)); exact BK162.out)⟩; have n2_ : Aside0 (wc.heap[gb163]? = some (.cells #[.int .i64 0, .int .i64 0, .int .i64 0, .int .i64 0, .int .i64 0, .int .i64 0, .int .i64 0] 24 (0, 0))) := ⟨by rw [← hq_]; exact (by (with_reducible repeat (first | refine Bf ?_ _ | refine Bh ?_ | refine Bg ?_ _)); exact BK163.out)⟩; have n3_ : Aside0 (Below w.heap.size w wc) := ⟨by rw [← hq_]; exact (by repeat (first | (with_reducible first | exact HB.out | apply Be | apply Bc | apply Bd | refine below_set ?_ GE162.out | refine below_set ?_ GE163.out) | exact HB.out))⟩; clear HO_6 BK162 BK163 HB hq_; have HO_6 := n0_; have BK162 := n1_; have BK163 := n2_; have HB := n3_; clear n0_ n1_ n2_ n3_)); have hnb43 := NB162_163.out; have hnc43 := NB163_162.out; have hcz44_0 : wc.cell? ⟨gb162, 0, none⟩ = some (.int .i64 a1_0) := (Ba BK162.out 0).trans rfl; have hcz44_1 : wc.cell? ⟨gb162, 1, none⟩ = some (.int .i64 a1_1) := (Ba BK162.out 1).trans rfl; have hcz44_2 : wc.cell? ⟨gb162, 2, none⟩ = some (.int .i64 a1_2) := (Ba BK162.out 2).trans rfl; have hcz44_3 : wc.cell? ⟨gb162, 3, none⟩ = some (.int .i64 a1_3) := (Ba BK162.out 3).trans rfl; have hcz44_4 : wc.cell? ⟨gb162, 4, none⟩ = some (.int .i64 a1_4) := (Ba BK162.out 4).trans rfl; have hcz44_5 : wc.cell? ⟨gb162, 5, none⟩ = some (.int .i64 a1_5) := (Ba BK162.out 5).trans rfl; have hcz44_6 : wc.cell? ⟨gb162, 6, none⟩ = some (.int .i64 a1_6) := (Ba BK162.out 6).trans rfl; have hfz44_0 := Bb BK162.out 0; have hfz44_1 := Bb BK162.out 1; have hfz44_2 := Bb BK162.out 2; have hfz44_3 := Bb BK162.out 3; have hfz44_4 := Bb BK162.out 4; have hfz44_5 := Bb BK162.out 5; have hfz44_6 := Bb BK162.out 6; have hcz45_0 : wc.cell? ⟨gb163, 0, none⟩ = some (.int .i64 0) := (Ba BK163.out 0).trans rfl; have hcz45_1 : wc.cell? ⟨gb163, 1, none⟩ = some (.int .i64 0) := (Ba BK163.out 1).trans rfl; have hcz45_2 : wc.cell? ⟨gb163, 2, none⟩ = some (.int .i64 0) := (Ba BK163.out 2).trans rfl; have hcz45_3 : wc.cell? ⟨gb163, 3, none⟩ = some (.int .i64 0) := (Ba BK163.out 3).trans rfl; have hcz45_4 : wc.cell? ⟨gb163, 4, none⟩ = some (.int .i64 0) := (Ba BK163.out 4).trans rfl; have hcz45_5 : wc.cell? ⟨gb163, 5, none⟩ = some (.int .i64 0) := (Ba BK163.out 5).trans rfl; have hcz45_6 : wc.cell? ⟨gb163, 6, none⟩ = some (.int .i64 0) := (Ba BK163.out 6).trans rfl; have hfz45_0 := Bb BK163.out 0; have hfz45_1 := Bb BK163.out 1; have hfz45_2 := Bb BK163.out 2; have hfz45_3 := Bb BK163.out 3; have hfz45_4 := Bb BK163.out 4; have hfz45_5 := Bb BK163.out 5; have hfz45_6 := Bb BK163.out 6))
      refine bodyPost_ret (results_ct rfl _ _ gb163 24 #[.int .i64 a1_0, .int .i64 a1_1, .int .i64 a1_2, .int .i64 t168, .int .i64 t171, .int .i64 0, .int .i64 a1_6] (0, 0) _ rfl (by (with_reducible repeat (first | refine Bf ?_ _ | refine Bh ?_ | refine Bg ?_ _)); refine blk_put (cs := #[.int .i64 a1_0, .int .i64 a1_1, .int .i64 a1_2, .int .i64 t168, .int .i64 t171, .int .i64 0, .int .i64 0]) ?_ 6 _ rfl; (with_reducible repeat (first | refine Bf ?_ _ | refine Bh ?_ | refine Bg ?_ _)); refine blk_put (cs := #[.int .i64 a1_0, .int .i64 a1_1, .int .i64 a1_2, .int .i64 t168, .int .i64 t171, .int .i64 0, .int .i64 0]) ?_ 5 _ rfl; (with_reducible repeat (first | refine Bf ?_ _ | refine Bh ?_ | refine Bg ?_ _)); refine blk_put (cs := #[.int .i64 a1_0, .int .i64 a1_1, .int .i64 a1_2, .int .i64 t168, .int .i64 0, .int .i64 0, .int .i64 0]) ?_ 4 _ rfl; (with_reducible repeat (first | refine Bf ?_ _ | refine Bh ?_ | refine Bg ?_ _)); refine blk_put (cs := #[.int .i64 a1_0, .int .i64 a1_1, .int .i64 a1_2, .int .i64 0, .int .i64 0, .int .i64 0, .int .i64 0]) ?_ 3 _ rfl; (with_reducible repeat (first | refine Bf ?_ _ | refine Bh ?_ | refine Bg ?_ _)); refine blk_put (cs := #[.int .i64 a1_0, .int .i64 a1_1, .int .i64 0, .int .i64 0, .int .i64 0, .int .i64 0, .int .i64 0]) ?_ 2 _ rfl; (with_reducible repeat (first | refine Bf ?_ _ | refine Bh ?_ | refine Bg ?_ _)); refine blk_put (cs := #[.int .i64 a1_0, .int .i64 0, .int .i64 0, .int .i64 0, .int .i64 0, .int .i64 0, .int .i64 0]) ?_ 1 _ rfl; (with_reducible repeat (first | refine Bf ?_ _ | refine Bh ?_ | refine Bg ?_ _)); refine blk_put (cs := #[.int .i64 0, .int .i64 0, .int .i64 0, .int .i64 0, .int .i64 0, .int .i64 0, .int .i64 0]) ?_ 0 _ rfl; (with_reducible repeat (first | refine Bf ?_ _ | refine Bh ?_ | refine Bg ?_ _)); refine blk_far ?_ NB163_162.out _; (with_reducible repeat (first | refine Bf ?_ _ | refine Bh ?_ | refine Bg ?_ _)); refine blk_far ?_ NB163_162.out _; (with_reducible repeat (first | refine Bf ?_ _ | refine Bh ?_ | refine Bg ?_ _)); refine blk_far ?_ NB163_162.out _; (with_reducible repeat (first | refine Bf ?_ _ | refine Bh ?_ | refine Bg ?_ _)); exact BK163.out) Tryd.underlying24 rfl (by kernel_rfl)) rfl ?_
      exact ⟨by first | rfl | (simp [errW_none, errW_some] <;> rfl) | (simp [*, errW_none, errW_some] <;> rfl), by repeat (first | (with_reducible first | exact HB.out | apply Be | apply Bc | apply Bd | refine below_set ?_ GE162.out | refine below_set ?_ GE163.out) | exact HB.out)⟩
     replace c36 := Bool.eq_false_iff.mpr c36
     subst c36
     have H1 : (some (a1_0, a1_1, a1_2, t168, t171, 0, a1_6, false)) = some (r1, r2, r3, r4, r5, r6, r7, r8) := by rw [if_neg (show ¬ (false = true) by decide)] at H; exact H
     clear H; have H := H1; clear H1
     simp only [Option.some.injEq, Prod.mk.injEq] at H
     obtain ⟨rfl, rfl, rfl, rfl, rfl, rfl, rfl, rfl⟩ := H
     obtain ⟨Ao46, co46, eo46⟩ := Kd.R_slice HO_6.out
     subst eo46
     have p167 : 0 ≤ (0 : Int) := (by omega)
     have q167 : 0 < (t164.length : Int) := of_decide_eq_true (by first | (with_reducible assumption) | assumption)
     (try (obtain ⟨Ay_, cy_, ey_⟩ := Kd.R_slice HO_6.out; subst ey_))
     obtain ⟨ad167, e167, hx167_0⟩ := Kd.at_string (Kd.R_reads' HO_6.out).2.2 0 p167 q167
     cases e167
     have qi167 : (0 < t164.length) = True := eq_true (by omega)
     (try rw [show ((0 : Int)).toNat = 0 from rfl] at hx167_0)
     (try rw [Addr.add_zero'] at hx167_0)
     replace p167 := eq_true p167; replace q167 := eq_true q167
     go_wp2_with (first | ((with_reducible refine gate_callee (f := 44) rfl ?_); refine goesL_ (some 28) rfl rfl Tryd.func44 (by kernel_rfl) rfl #[.string (rdOf ByteArray.empty t164 0), .int .i64 2, .int .i64 2] rfl (by (try simp only [List.map_toArray, List.map_cons, List.map_nil]); first | done | rfl | (simp only [List.length_drop, List.length_take]; rfl)) ?_; (with_reducible refine (spec_l4Digits.calls kj3 (rdOf ByteArray.empty t164 0) 2 2 t168 false _ A16.out).mono ?_); rintro e w' ⟨rfl, ⟨nd, rfl⟩⟩; refine ⟨_, rfl, ?_⟩; (try (rw [drewN_self wc]; generalize hq_ : World.drewN wc _ = wc; have n0_ : Aside0 (Kd.R Kd.string 9 wc w.heap.size (fun _ => True) (.slice (some ad167) t164.length co46) t164) := ⟨by rw [← hq_]; exact (by (with_reducible repeat (first | apply Kd.R_alloc | apply Kd.R_drewN | apply Kd.R_drew)); exact HO_6.out)⟩; have n1_ : Aside0 (wc.heap[gb162]? = some (.cells #[.int .i64 a1_0, .int .i64 a1_1, .int .i64 a1_2, .int .i64 a1_3, .int .i64 a1_4, .int .i64 a1_5, .int .i64 a1_6] 24 (0, 0))) := ⟨by rw [← hq_]; exact (by (with_reducible repeat (first | refine Bf ?_ _ | refine Bh ?_ | refine Bg ?_ _)); exact BK162.out)⟩; have n2_ : Aside0 (wc.heap[gb163]? = some (.cells #[.int .i64 0, .int .i64 0, .int .i64 0, .int .i64 0, .int .i64 0, .int .i64 0, .int .i64 0] 24 (0, 0))) := ⟨by rw [← hq_]; exact (by (with_reducible repeat (first | refine Bf ?_ _ | refine Bh ?_ | refine Bg ?_ _)); exact BK163.out)⟩; have n3_ : Aside0 (Below w.heap.size w wc) := ⟨by rw [← hq_]; exact (by repeat (first | (with_reducible first | exact HB.out | apply Be | apply Bc | apply Bd | refine below_set ?_ GE162.out | refine below_set ?_ GE163.out) | exact HB.out))⟩; clear HO_6 BK162 BK163 HB hq_; have HO_6 := n0_; have BK162 := n1_; have BK163 := n2_; have HB := n3_; clear n0_ n1_ n2_ n3_)); have p170 : 0 ≤ (1 : Int) := (by omega); have q170 : 1 < (t164.length : Int) := of_decide_eq_true (by first | (with_reducible assumption) | assumption); obtain ⟨ad170, e170, hx170_0⟩ := Kd.at_string (Kd.R_reads' HO_6.out).2.2 1 p170 q170; obtain rfl : ad167 = ad170 := (by injection e170); (try simp only [show (1 : Int).toNat = 1 from rfl, Nat.reduceMul, Nat.reduceEqDiff, Go.Addr.add, ↓reduceIte] at hx170_0); have qi170 : (1 < t164.length) = True := eq_true (by omega); (try rw [show ((1 : Int)).toNat = 1 from rfl] at hx170_0); replace p170 := eq_true p170; replace q170 := eq_true q170) | ((with_reducible refine gate_callee (f := 44) rfl ?_); refine goesL_ (some 35) rfl rfl Tryd.func44 (by kernel_rfl) rfl #[.string (rdOf ByteArray.empty t164 1), .int .i64 2, .int .i64 2] rfl (by (try simp only [List.map_toArray, List.map_cons, List.map_nil]); first | done | rfl | (simp only [List.length_drop, List.length_take]; rfl)) ?_; (with_reducible refine (spec_l4Digits.calls kj3 (rdOf ByteArray.empty t164 1) 2 2 t171 t172 _ A18.out).mono ?_); rintro e w' ⟨rfl, ⟨nd, rfl⟩⟩; refine ⟨_, rfl, ?_⟩; (try (rw [drewN_self wc]; generalize hq_ : World.drewN wc _ = wc; have n0_ : Aside0 (Kd.R Kd.string 9 wc w.heap.size (fun _ => True) (.slice (some ad167) t164.length co46) t164) := ⟨by rw [← hq_]; exact (by (with_reducible repeat (first | apply Kd.R_alloc | apply Kd.R_drewN | apply Kd.R_drew)); exact HO_6.out)⟩; have n1_ : Aside0 (wc.heap[gb162]? = some (.cells #[.int .i64 a1_0, .int .i64 a1_1, .int .i64 a1_2, .int .i64 a1_3, .int .i64 a1_4, .int .i64 a1_5, .int .i64 a1_6] 24 (0, 0))) := ⟨by rw [← hq_]; exact (by (with_reducible repeat (first | refine Bf ?_ _ | refine Bh ?_ | refine Bg ?_ _)); exact BK162.out)⟩; have n2_ : Aside0 (wc.heap[gb163]? = some (.cells #[.int .i64 0, .int .i64 0, .int .i64 0, .int .i64 0, .int .i64 0, .int .i64 0, .int .i64 0] 24 (0, 0))) := ⟨by rw [← hq_]; exact (by (with_reducible repeat (first | refine Bf ?_ _ | refine Bh ?_ | refine Bg ?_ _)); exact BK163.out)⟩; have n3_ : Aside0 (Below w.heap.size w wc) := ⟨by rw [← hq_]; exact (by repeat (first | (with_reducible first | exact HB.out | apply Be | apply Bc | apply Bd | refine below_set ?_ GE162.out | refine below_set ?_ GE163.out) | exact HB.out))⟩; clear HO_6 BK162 BK163 HB hq_; have HO_6 := n0_; have BK162 := n1_; have BK163 := n2_; have HB := n3_; clear n0_ n1_ n2_ n3_)); have hnb47 := NB162_163.out; have hnc47 := NB163_162.out; have hcz48_0 : wc.cell? ⟨gb162, 0, none⟩ = some (.int .i64 a1_0) := (Ba BK162.out 0).trans rfl; have hcz48_1 : wc.cell? ⟨gb162, 1, none⟩ = some (.int .i64 a1_1) := (Ba BK162.out 1).trans rfl; have hcz48_2 : wc.cell? ⟨gb162, 2, none⟩ = some (.int .i64 a1_2) := (Ba BK162.out 2).trans rfl; have hcz48_3 : wc.cell? ⟨gb162, 3, none⟩ = some (.int .i64 a1_3) := (Ba BK162.out 3).trans rfl; have hcz48_4 : wc.cell? ⟨gb162, 4, none⟩ = some (.int .i64 a1_4) := (Ba BK162.out 4).trans rfl; have hcz48_5 : wc.cell? ⟨gb162, 5, none⟩ = some (.int .i64 a1_5) := (Ba BK162.out 5).trans rfl; have hcz48_6 : wc.cell? ⟨gb162, 6, none⟩ = some (.int .i64 a1_6) := (Ba BK162.out 6).trans rfl; have hfz48_0 := Bb BK162.out 0; have hfz48_1 := Bb BK162.out 1; have hfz48_2 := Bb BK162.out 2; have hfz48_3 := Bb BK162.out 3; have hfz48_4 := Bb BK162.out 4; have hfz48_5 := Bb BK162.out 5; have hfz48_6 := Bb BK162.out 6; have hcz49_0 : wc.cell? ⟨gb163, 0, none⟩ = some (.int .i64 0) := (Ba BK163.out 0).trans rfl; have hcz49_1 : wc.cell? ⟨gb163, 1, none⟩ = some (.int .i64 0) := (Ba BK163.out 1).trans rfl; have hcz49_2 : wc.cell? ⟨gb163, 2, none⟩ = some (.int .i64 0) := (Ba BK163.out 2).trans rfl; have hcz49_3 : wc.cell? ⟨gb163, 3, none⟩ = some (.int .i64 0) := (Ba BK163.out 3).trans rfl; have hcz49_4 : wc.cell? ⟨gb163, 4, none⟩ = some (.int .i64 0) := (Ba BK163.out 4).trans rfl; have hcz49_5 : wc.cell? ⟨gb163, 5, none⟩ = some (.int .i64 0) := (Ba BK163.out 5).trans rfl; have hcz49_6 : wc.cell? ⟨gb163, 6, none⟩ = some (.int .i64 0) := (Ba BK163.out 6).trans rfl; have hfz49_0 := Bb BK163.out 0; have hfz49_1 := Bb BK163.out 1; have hfz49_2 := Bb BK163.out 2; have hfz49_3 := Bb BK163.out 3; have hfz49_4 := Bb BK163.out 4; have hfz49_5 := Bb BK163.out 5; have hfz49_6 := Bb BK163.out 6))
     refine bodyPost_ret (results_ct rfl _ _ gb163 24 #[.int .i64 a1_0, .int .i64 a1_1, .int .i64 a1_2, .int .i64 t168, .int .i64 t171, .int .i64 0, .int .i64 a1_6] (0, 0) _ rfl (by (with_reducible repeat (first | refine Bf ?_ _ | refine Bh ?_ | refine Bg ?_ _)); refine blk_put (cs := #[.int .i64 a1_0, .int .i64 a1_1, .int .i64 a1_2, .int .i64 t168, .int .i64 t171, .int .i64 0, .int .i64 0]) ?_ 6 _ rfl; (with_reducible repeat (first | refine Bf ?_ _ | refine Bh ?_ | refine Bg ?_ _)); refine blk_put (cs := #[.int .i64 a1_0, .int .i64 a1_1, .int .i64 a1_2, .int .i64 t168, .int .i64 t171, .int .i64 0, .int .i64 0]) ?_ 5 _ rfl; (with_reducible repeat (first | refine Bf ?_ _ | refine Bh ?_ | refine Bg ?_ _)); refine blk_put (cs := #[.int .i64 a1_0, .int .i64 a1_1, .int .i64 a1_2, .int .i64 t168, .int .i64 0, .int .i64 0, .int .i64 0]) ?_ 4 _ rfl; (with_reducible repeat (first | refine Bf ?_ _ | refine Bh ?_ | refine Bg ?_ _)); refine blk_put (cs := #[.int .i64 a1_0, .int .i64 a1_1, .int .i64 a1_2, .int .i64 0, .int .i64 0, .int .i64 0, .int .i64 0]) ?_ 3 _ rfl; (with_reducible repeat (first | refine Bf ?_ _ | refine Bh ?_ | refine Bg ?_ _)); refine blk_put (cs := #[.int .i64 a1_0, .int .i64 a1_1, .int .i64 0, .int .i64 0, .int .i64 0, .int .i64 0, .int .i64 0]) ?_ 2 _ rfl; (with_reducible repeat (first | refine Bf ?_ _ | refine Bh ?_ | refine Bg ?_ _)); refine blk_put (cs := #[.int .i64 a1_0, .int .i64 0, .int .i64 0, .int .i64 0, .int .i64 0, .int .i64 0, .int .i64 0]) ?_ 1 _ rfl; (with_reducible repeat (first | refine Bf ?_ _ | refine Bh ?_ | refine Bg ?_ _)); refine blk_put (cs := #[.int .i64 0, .int .i64 0, .int .i64 0, .int .i64 0, .int .i64 0, .int .i64 0, .int .i64 0]) ?_ 0 _ rfl; (with_reducible repeat (first | refine Bf ?_ _ | refine Bh ?_ | refine Bg ?_ _)); refine blk_far ?_ NB163_162.out _; (with_reducible repeat (first | refine Bf ?_ _ | refine Bh ?_ | refine Bg ?_ _)); refine blk_far ?_ NB163_162.out _; (with_reducible repeat (first | refine Bf ?_ _ | refine Bh ?_ | refine Bg ?_ _)); refine blk_far ?_ NB163_162.out _; (with_reducible repeat (first | refine Bf ?_ _ | refine Bh ?_ | refine Bg ?_ _)); exact BK163.out) Tryd.underlying24 rfl (by kernel_rfl)) rfl ?_
     exact ⟨by first | rfl | (simp [errW_none, errW_some] <;> rfl) | (simp [*, errW_none, errW_some] <;> rfl), by repeat (first | (with_reducible first | exact HB.out | apply Be | apply Bc | apply Bd | refine below_set ?_ GE162.out | refine below_set ?_ GE163.out) | exact HB.out)⟩
    rw [if_neg c17] at H
    exact absurd H (by simp)
   rw [if_neg c15] at H
   exact absurd H (by simp)

end Go.Proofs.YtafpbechcjcdbaaDoor.PFnExactParseDate
