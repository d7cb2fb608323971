-- By a program of this session.
import Derived.Test.YtafpbechcjcdbaaDoorPFnDateTextx0
import Derived.Test.YtafpbechcjcdbaaDoorPFnDateTextx3
namespace Go.Proofs.YtafpbechcjcdbaaDoor.PFnDateText
open Go.RowKit Go.Proofs.YtafpbechcjcdbaaDoorW.PrintWords Go.Proofs.YtafpbechcjcdbaaDoorW.PrintLast Go.Proofs.YtafpbechcjcdbaaDoorW.PrintMore
open Go.Proofs.YtafpbechcjcdbaaDoorW.PrintWords renaming blk_cell → Ba, blk_frozen → Bb, pw_below_drewN → Bc, below_drew1 → Bd, below_alloc → Be, blk_drewN → Bf, blk_alloc → Bg
attribute [local go_sem] max2_int min2_int max_two min_two max_three min_three max_four min_four
set_option linter.unusedVariables false
set_option linter.unusedSimpArgs false
def impl_TextValid.l0 : Nat → ByteArray → Int → Int → Option (Bool)
 | 0, _, _, _ => none
 | k + 1, x0, x5, x6 => if x6 < x5 then (if 0 ≤ x6 then (if x6 < (x0.size : Int) then (if (bt x0 x6) < 32 then (some false) else (if (bt x0 x6) > 126 then (some false) else (impl_TextValid.l0 k x0 x5 (wrap64 (x6 + 1))))) else (none)) else (none)) else (some (decide ((x0.size : Int) ≤ 200)))
def impl_TextValid.f (k : Nat) (a0 : ByteArray) : Option (Bool) := impl_TextValid.l0 k a0 (a0.size : Int) 0
theorem impl_TextValid.mono_l : ∀ k, (∀ y0 y1 y2, LeO (impl_TextValid.l0 k y0 y1 y2) (impl_TextValid.l0 (k + 1) y0 y1 y2))
 | 0 => fun _ _ _ r h => by simp [impl_TextValid.l0] at h
 | k + 1 => by
  have ih0 := impl_TextValid.mono_l k
  intro y0 y1 y2
  unfold impl_TextValid.l0
  repeat' first
  | (with_reducible exact ih0 _ _ _)
  | (with_reducible exact LeO.refl _)
  | (with_reducible exact LeO.none _)
  | (with_reducible refine LeO.ite ?_ ?_)
  | (with_reducible refine LeO.bind ?_ (fun _ => ?_))
theorem impl_TextValid.mono : ∀ a0 k, LeO (impl_TextValid.f k a0) (impl_TextValid.f (k + 1) a0) := by
 intro a0 k
 have ih0 := impl_TextValid.mono_l k
 unfold impl_TextValid.f
 repeat' first
   | (with_reducible exact ih0 _ _ _)
   | (with_reducible exact LeO.refl _)
   | (with_reducible exact LeO.none _)
   | (with_reducible refine LeO.ite ?_ ?_)
   | (with_reducible refine LeO.bind ?_ (fun _ => ?_))
set_option maxHeartbeats 8000000 in
set_option maxRecDepth 100000 in
theorem impl_TextValid.calls (k : Nat) (a0 : ByteArray) (r : Bool) (w : World) (h : impl_TextValid.f k a0 = some r) :
  Calls Tryd.prog 27 #[.string a0] w fun e w' => e = .returned (.bool r) ∧ Drawn0 w w' := by
 have H : (impl_TextValid.l0 k a0 (a0.size : Int) 0) = some r := h
 clear h
 have H' := Aside0.mk H
 clear H
 go_enter Tryd.func27, Tryd.ntmps27
 go_wp2
 go_loopg [6] k (fun kq v6 w' => ∃ (x6_1 : Int), v6 = .int .i64 x6_1 ∧ Aside0 (impl_TextValid.l0 kq a0 (a0.size : Int) x6_1 = some r) ∧ Aside0 (kq ≤ k) ∧ Drawn0 w w')
 case atStart => exact ⟨(0), (by first | rfl | (simp; done) | (simp [*]; done)), H', ⟨Nat.le_refl _⟩, by repeat (first | exact Drawn0.refl _ | apply Drawn0.step)⟩
 case round =>
  clear H'
  obtain ⟨x6_1, rfl, HA, HK1, ⟨m1, rfl⟩⟩ := hrel
  cases gk with
  | zero => exact absurd HA.out (by simp [impl_TextValid.l0])
  | succ k1 =>
   have H := HA.out; clear HA
   simp only [impl_TextValid.l0] at H
   by_cases c2 : x6_1 < (a0.size : Int)
   rotate_left
   ·rw [if_neg c2] at H
    have c2b0 : decide (x6_1 < (a0.size : Int)) = false := decide_eq_false c2
    clear c2
    obtain rfl := Option.some.inj H
    go_wp2
    go_ret
    exact ⟨by first | rfl | (simp; done) | (simp [*]; done), by repeat (first | exact Drawn0.refl _ | apply Drawn0.step)⟩
   rw [if_pos c2] at H
   have c2b0 : decide (x6_1 < (a0.size : Int)) = true := decide_eq_true c2
   clear c2
   by_cases c3 : 0 ≤ x6_1
   rotate_left
   ·rw [if_neg c3] at H
    exact absurd H (by simp)
   rw [if_pos c3] at H
   have c3b0 : decide (0 ≤ x6_1) = true := decide_eq_true c3
   clear c3
   by_cases c4 : x6_1 < (a0.size : Int)
   rotate_left
   ·rw [if_neg c4] at H
    exact absurd H (by simp)
   rw [if_pos c4] at H
   have c4b0 : decide (x6_1 < (a0.size : Int)) = true := decide_eq_true c4
   clear c4
   by_cases c6 : (bt a0 x6_1) < 32
   ·rw [if_pos c6] at H
    have c6b0 : decide ((bt a0 x6_1) < 32) = true := decide_eq_true c6
    clear c6
    obtain rfl := Option.some.inj H
    have p5 : 0 ≤ (x6_1 : Int) := of_decide_eq_true (by first | (with_reducible assumption) | assumption)
    have q5 : x6_1 < (a0.size : Int) := of_decide_eq_true (by first | (with_reducible assumption) | assumption)
    have hx5 := bt_at a0 x6_1; replace p5 := eq_true p5; replace q5 := eq_true q5
    go_wp2
    go_ret
    exact ⟨by first | rfl | (simp; done) | (simp [*]; done), by repeat (first | exact Drawn0.refl _ | apply Drawn0.step)⟩
   rw [if_neg c6] at H
   have c6b0 : decide ((bt a0 x6_1) < 32) = false := decide_eq_false c6
   clear c6
   by_cases c8 : (bt a0 x6_1) > 126
   ·rw [if_pos c8] at H
    have c8b0 : decide (126 < (bt a0 x6_1)) = true := decide_eq_true c8
    clear c8
    obtain rfl := Option.some.inj H
    have p5 : 0 ≤ (x6_1 : Int) := of_decide_eq_true (by first | (with_reducible assumption) | assumption)
    have q5 : x6_1 < (a0.size : Int) := of_decide_eq_true (by first | (with_reducible assumption) | assumption)
    have hx5 := bt_at a0 x6_1; replace p5 := eq_true p5; replace q5 := eq_true q5
    have p7 : 0 ≤ (x6_1 : Int) := of_decide_eq_true (by first | (with_reducible assumption) | assumption)
    have q7 : x6_1 < (a0.size : Int) := of_decide_eq_true (by first | (with_reducible assumption) | assumption)
    have hx7 := bt_at a0 x6_1; replace p7 := eq_true p7; replace q7 := eq_true q7
    go_wp2
    go_ret
    exact ⟨by first | rfl | (simp; done) | (simp [*]; done), by repeat (first | exact Drawn0.refl _ | apply Drawn0.step)⟩
   rw [if_neg c8] at H
   have c8b0 : decide (126 < (bt a0 x6_1)) = false := decide_eq_false c8
   clear c8
   have H' := Aside0.mk H
   clear H
   have p5 : 0 ≤ (x6_1 : Int) := of_decide_eq_true (by first | (with_reducible assumption) | assumption)
   have q5 : x6_1 < (a0.size : Int) := of_decide_eq_true (by first | (with_reducible assumption) | assumption)
   have hx5 := bt_at a0 x6_1; replace p5 := eq_true p5; replace q5 := eq_true q5
   have p7 : 0 ≤ (x6_1 : Int) := of_decide_eq_true (by first | (with_reducible assumption) | assumption)
   have q7 : x6_1 < (a0.size : Int) := of_decide_eq_true (by first | (with_reducible assumption) | assumption)
   have hx7 := bt_at a0 x6_1; replace p7 := eq_true p7; replace q7 := eq_true q7
   go_wp2
   go_roundg k1
   case measure => have := HK1.out; omega
   case rel => exact ⟨(wrap64 (x6_1 + 1)), (by first | rfl | (simp; done) | (simp [*]; done)), H', ⟨by have := HK1.out; omega⟩, by repeat (first | exact Drawn0.refl _ | apply Drawn0.step)⟩
def strings_Cut.f (a0 : ByteArray) (a1 : ByteArray) : Option (ByteArray × ByteArray × Bool) := if a0.size < 4294967281 ∧ a1.size = 1 then some (⟨(Lib.cut a0.data.toList a1.data.toList).1.toArray⟩, ⟨(Lib.cut a0.data.toList a1.data.toList).2.1.toArray⟩, (Lib.cut a0.data.toList a1.data.toList).2.2) else none
set_option maxHeartbeats 4000000 in
set_option maxRecDepth 100000 in
theorem strings_Cut.lite (s : ByteArray) (c : UInt8) (hs : s.size < 4294967281) (w : World) :
  Calls Tryd.prog 60 #[.string s, .string ⟨#[c]⟩] w fun e w' => e = .returned (.tuple #[.string ⟨(Lib.cut s.data.toList [c]).1.toArray⟩, .string ⟨(Lib.cut s.data.toList [c]).2.1.toArray⟩, .bool (Lib.cut s.data.toList [c]).2.2]) ∧ Drawn0 w w' := by
 have L := Go.Proofs.Tryd.lays145
 have hix0 : ∀ W, Calls Tryd.prog 78 #[.string s, .string ⟨#[c]⟩] W fun e w' => e = .returned (.int .i64 (Lib.indexB s ⟨#[c]⟩)) ∧ w' = W := by
  intro W
  refine (Go.Proofs.Any.stringslite_Index_one { L with } s c W).mono fun e w' ⟨he, hw⟩ => ⟨?_, hw⟩
  rw [he]
  show _ = Ending.returned (Value.int .i64 (Lib.index s.data.toList [c]))
  rw [Lib.index_one]
 rcases Lib.indexB_cases s ⟨#[c]⟩ with hix | ⟨i, hix, hroom⟩
 ·obtain ⟨e1, e2, e3⟩ := Lib.cutB_miss s ⟨#[c]⟩ hix
  rw [show [c] = (ByteArray.mk #[c]).data.toList from rfl, e1, e2, e3]
  clear e1 e2 e3
  rw [hix] at hix0
  go_enter Tryd.func60, Tryd.ntmps60
  go_wp2_with (go_at_call 78; refine (hix0 _).mono ?_; rintro e w' ⟨rfl, rfl⟩)
  go_ret3
  exact ⟨rfl, by repeat (first | exact Drawn0.refl _ | apply Drawn0.step)⟩
 obtain ⟨e1, e2, e3⟩ := Lib.cutB_hit s ⟨#[c]⟩ i hix
 rw [show [c] = (ByteArray.mk #[c]).data.toList from rfl, e1, e2, e3]
 clear e1 e2 e3
 rw [hix] at hix0
 have hsz : (ByteArray.mk #[c]).size = 1 := rfl
 rw [hsz] at hroom ⊢
 have c1 : (0 : Int) ≤ ↑i := by omega
 have c2 : (↑i : Int) ≤ ↑s.size := by omega
 have c3 : (0 : Int) ≤ ↑i + 1 := by omega
 have c4 : (↑i + 1 : Int) ≤ ↑s.size := by omega
 have hw : wrap64 ((i : Int) + 1) = (i : Int) + 1 := by unfold wrap64; omega
 go_enter Tryd.func60, Tryd.ntmps60
 go_wp2_with (go_at_call 78; refine (hix0 _).mono ?_; rintro e w' ⟨rfl, rfl⟩)
 repeat (go_quiet (fail); try go_wp2)
 go_ret3
 exact ⟨rfl, by repeat (first | exact Drawn0.refl _ | apply Drawn0.step)⟩
theorem strings_Cut.calls (a0 : ByteArray) (a1 : ByteArray) (r1 : ByteArray) (r2 : ByteArray) (r3 : Bool) (w : World) (h : strings_Cut.f a0 a1 = some (r1, r2, r3)) :
  Calls Tryd.prog 28 #[.string a0, .string a1] w fun e w' => e = .returned (.tuple #[.string r1, .string r2, .bool r3]) ∧ Drawn0 w w' := by
 unfold strings_Cut.f at h
 by_cases hb : a0.size < 4294967281 ∧ a1.size = 1
 ·rw [if_pos hb] at h
  obtain ⟨rfl, rfl, rfl⟩ : ⟨(Lib.cut a0.data.toList a1.data.toList).1.toArray⟩ = r1 ∧ ⟨(Lib.cut a0.data.toList a1.data.toList).2.1.toArray⟩ = r2 ∧ (Lib.cut a0.data.toList a1.data.toList).2.2 = r3 := by
   have e := Option.some.inj h
   exact ⟨congrArg (·.1) e, congrArg (·.2.1) e, congrArg (·.2.2) e⟩
  obtain ⟨c, rfl⟩ := Lib.one_byte a1 hb.2
  have hl := strings_Cut.lite a0 c hb.1
  clear h hb
  rw [show (ByteArray.mk #[c]).data.toList = [c] from rfl]
  generalize (⟨(Lib.cut a0.data.toList [c]).1.toArray⟩ : ByteArray) = x1 at hl ⊢
  generalize (⟨(Lib.cut a0.data.toList [c]).2.1.toArray⟩ : ByteArray) = x2 at hl ⊢
  generalize (Lib.cut a0.data.toList [c]).2.2 = x3 at hl ⊢
  go_enter Tryd.func28, Tryd.ntmps28
  go_wp2_with (go_at_call 60; refine (hl _).mono ?_; rintro e w' ⟨rfl, ⟨nd, rfl⟩⟩)
  go_ret3
  exact ⟨rfl, by repeat (first | exact Drawn0.refl _ | apply Drawn0.step)⟩
 rw [if_neg hb] at h
 cases h
def strings_Split.f (a0 : ByteArray) (a1 : ByteArray) : Option (List ByteArray) := if a0.size < 4294967281 ∧ a1.size = 1 then some (Lib.splitB a1 0 (Lib.countB a0 a1) a0) else none
theorem strings_Split.own {w : World} (xs : List ByteArray) (hl : xs.length ≤ 9223372036854775807) : Kd.R Kd.string 9 (w.alloc (.cells (xs.map Value.string).toArray 9)) w.heap.size (fun _ => True) (.slice (some ⟨w.heap.size, 0, none⟩) xs.length xs.length) xs := by
 refine Kd.R_of_own ?_ (fun _ _ => trivial)
 refine ⟨by simp [encs], .inr ⟨w.heap.size, xs.length, (xs.map Value.string).toArray, rfl, Nat.le_refl _, by simpa using heap_alloc_new w _, Nat.le_refl _, hl, by simp, ?_⟩⟩
 rw [Nat.mul_one, List.take_of_length_le (by simp)]
 rfl
theorem strings_Split.calls (a0 : ByteArray) (a1 : ByteArray) (r : List ByteArray) (w : World) (h : strings_Split.f a0 a1 = some r) :
  Calls Tryd.prog 30 #[.string a0, .string a1] w fun e w' => ∃ v0_ : Value, e = .returned (v0_) ∧ Kd.R Kd.string 9 w' w.heap.size (fun _ => True) v0_ r ∧ Below w.heap.size w w' := by
 unfold strings_Split.f at h
 by_cases hb : a0.size < 4294967281 ∧ a1.size = 1
 ·rw [if_pos hb] at h
  obtain rfl := Option.some.inj h
  obtain ⟨hs, h1⟩ := hb
  obtain ⟨c, rfl⟩ := Lib.one_byte a1 h1
  have hle := Lib.countB_le ⟨#[c]⟩ (by rw [h1]; exact Nat.le_refl _) a0.size a0 (Nat.le_refl _)
  have hlen := Lib.splitB_all ⟨#[c]⟩ (by rw [h1]; exact Nat.le_refl _) 0 _ a0 rfl
  have L := Go.Proofs.Tryd.lays146
  have hcount : Calls Tryd.prog 80 #[.string a0, .string ⟨#[c]⟩] w fun e w' => e = .returned (.int .i64 (Lib.countB a0 ⟨#[c]⟩)) ∧ w' = w := by
   refine (Go.Proofs.Any.strings_Count_one { L with } a0 c w).mono fun e w' ⟨he, hw⟩ => ⟨?_, hw⟩
   rw [he]
   show _ = Ending.returned (Value.int .i64 ((Lib.count a0.data.toList [c] : Nat) : Int))
   rw [Lib.count_one]
   rfl
  have hidx : ∀ (x : ByteArray) (cs : Array Value), x.size ≤ a0.size → Calls Tryd.prog 81 #[.string x, .string ⟨#[c]⟩] (w.alloc (.cells cs 9)) fun e w' => e = .returned (.int .i64 (Lib.indexB x ⟨#[c]⟩)) ∧ w' = w.alloc (.cells cs 9) := by
   intro x cs _
   refine (Go.Proofs.Any.strings_Index_one { L with } x c _).mono fun e w' ⟨he, hw⟩ => ⟨?_, hw⟩
   rw [he]
   show _ = Ending.returned (Value.int .i64 (Lib.index x.data.toList [c]))
   rw [Lib.index_one]
  have hg := Go.Proofs.Any.strings_genSplit_core { L with } (by kernel_rfl) a0 ⟨#[c]⟩ 0 (-1) (Lib.countB a0 ⟨#[c]⟩ + 1) w hs (by rw [h1]; exact Nat.le_refl _) (Nat.zero_le _) hidx hcount (by decide) (by decide) (by rw [if_pos (by decide)]; omega)
  rw [Nat.add_sub_cancel, hlen] at hg
  have e2 : Lib.cellsOf (Lib.splitB ⟨#[c]⟩ 0 (Lib.countB a0 ⟨#[c]⟩) a0) (Lib.countB a0 ⟨#[c]⟩ + 1) = ((Lib.splitB ⟨#[c]⟩ 0 (Lib.countB a0 ⟨#[c]⟩) a0).map Value.string).toArray := by rw [← hlen]; exact Lib.cellsOf_full _
  rw [e2] at hg
  have HO := strings_Split.own (w := w) (Lib.splitB ⟨#[c]⟩ 0 (Lib.countB a0 ⟨#[c]⟩) a0) (by rw [hlen]; omega)
  rw [hlen] at HO
  have h0 : 61 = 61 := rfl
  go_enter Tryd.func30, Tryd.ntmps30
  go_wp2_with (go_at_call 61; refine hg.mono ?_; rintro e w' ⟨rfl, hw⟩; rw [hw])
  go_ret
  exact ⟨_, rfl, HO, (Below.refl _ _).alloc (Nat.le_refl _) _⟩
 rw [if_neg hb] at h
 cases h
def impl_isDigit.f (a0 : Int) : Option (Bool) := if a0 ≥ 48 then (some (decide (a0 ≤ 57))) else (some false)
set_option maxHeartbeats 8000000 in
set_option maxRecDepth 100000 in
theorem impl_isDigit.calls (a0 : Int) (r : Bool) (w : World) (h : impl_isDigit.f a0 = some r) :
  Calls Tryd.prog 63 #[.int .u8 a0] w fun e w' => e = .returned (.bool r) ∧ Drawn0 w w' := by
 have H : (if a0 ≥ 48 then (some (decide (a0 ≤ 57))) else (some false)) = some r := h
 clear h
 by_cases c2 : a0 ≥ 48
 ·rw [if_pos c2] at H
  have c2b0 : decide (48 ≤ a0) = true := decide_eq_true c2
  clear c2
  obtain rfl := Option.some.inj H
  go_enter Tryd.func63, Tryd.ntmps63
  go_wp2
  go_ret
  exact ⟨by first | rfl | (simp; done) | (simp [*]; done), by repeat (first | exact Drawn0.refl _ | apply Drawn0.step)⟩
 rw [if_neg c2] at H
 have c2b0 : decide (48 ≤ a0) = false := decide_eq_false c2
 clear c2
 obtain rfl := Option.some.inj H
 go_enter Tryd.func63, Tryd.ntmps63
 go_wp2
 go_ret
 exact ⟨by first | rfl | (simp; done) | (simp [*]; done), by repeat (first | exact Drawn0.refl _ | apply Drawn0.step)⟩
def impl_allBytes.l0 : Nat → ByteArray → Int → Int → Option (Bool)
 | 0, _, _, _ => none
 | k + 1, x0, x7, x8 => if x8 < x7 then (if 0 ≤ x8 then (if x8 < (x0.size : Int) then ((impl_isDigit.f (bt x0 x8)).bind fun t280 => (if t280 = true then (impl_allBytes.l0 k x0 x7 (wrap64 (x8 + 1))) else (some false))) else (none)) else (none)) else (some true)
def impl_allBytes.f (k : Nat) (a0 : ByteArray)  : Option (Bool) := impl_allBytes.l0 k a0 (a0.size : Int) 0
theorem impl_allBytes.mono_l : ∀ k, (∀ y0 y1 y2, LeO (impl_allBytes.l0 k y0 y1 y2) (impl_allBytes.l0 (k + 1) y0 y1 y2))
 | 0 => fun _ _ _ r h => by simp [impl_allBytes.l0] at h
 | k + 1 => by
  have ih0 := impl_allBytes.mono_l k
  intro y0 y1 y2
  unfold impl_allBytes.l0
  repeat' first
  | (with_reducible exact ih0 _ _ _)
  | (with_reducible exact LeO.refl _)
  | (with_reducible exact LeO.none _)
  | (with_reducible refine LeO.ite ?_ ?_)
  | (with_reducible refine LeO.bind ?_ (fun _ => ?_))
theorem impl_allBytes.mono : ∀ a0 k, LeO (impl_allBytes.f k a0) (impl_allBytes.f (k + 1) a0) := by
 intro a0 k
 have ih0 := impl_allBytes.mono_l k
 unfold impl_allBytes.f
 repeat' first
   | (with_reducible exact ih0 _ _ _)
   | (with_reducible exact LeO.refl _)
   | (with_reducible exact LeO.none _)
   | (with_reducible refine LeO.ite ?_ ?_)
   | (with_reducible refine LeO.bind ?_ (fun _ => ?_))
set_option maxHeartbeats 8000000 in
set_option maxRecDepth 100000 in
theorem impl_allBytes.calls (k : Nat) (a0 : ByteArray)  (r : Bool) (w : World) (h : impl_allBytes.f k a0 = some r) :
  Calls Tryd.prog 62 #[.string a0, .func (.func 63) #[] #[]] w fun e w' => e = .returned (.bool r) ∧ Drawn0 w w' := by
 have H : (impl_allBytes.l0 k a0 (a0.size : Int) 0) = some r := h
 clear h
 have H' := Aside0.mk H
 clear H
 go_enter Tryd.func62, Tryd.ntmps62
 go_wp2
 go_loopg [8] k (fun kq v8 w' => ∃ (x8_1 : Int), v8 = .int .i64 x8_1 ∧ Aside0 (impl_allBytes.l0 kq a0 (a0.size : Int) x8_1 = some r) ∧ Aside0 (kq ≤ k) ∧ Drawn0 w w')
 case atStart => exact ⟨(0), (by first | rfl | (simp; done) | (simp [*]; done)), H', ⟨Nat.le_refl _⟩, by repeat (first | exact Drawn0.refl _ | apply Drawn0.step)⟩
 case round =>
  clear H'
  try clear p2
  obtain ⟨x8_1, rfl, HA, HK1, ⟨m1, rfl⟩⟩ := hrel
  cases gk with
  | zero => exact absurd HA.out (by simp [impl_allBytes.l0])
  | succ k1 =>
   have H := HA.out; clear HA
   simp only [impl_allBytes.l0] at H
   by_cases c3 : x8_1 < (a0.size : Int)
   rotate_left
   ·rw [if_neg c3] at H
    have c3b0 : decide (x8_1 < (a0.size : Int)) = false := decide_eq_false c3
    clear c3
    obtain rfl := Option.some.inj H
    go_wp2
    go_ret
    exact ⟨by first | rfl | (simp; done) | (simp [*]; done), by repeat (first | exact Drawn0.refl _ | apply Drawn0.step)⟩
   rw [if_pos c3] at H
   have c3b0 : decide (x8_1 < (a0.size : Int)) = true := decide_eq_true c3
   clear c3
   by_cases c4 : 0 ≤ x8_1
   rotate_left
   ·rw [if_neg c4] at H
    exact absurd H (by simp)
   rw [if_pos c4] at H
   have c4b0 : decide (0 ≤ x8_1) = true := decide_eq_true c4
   clear c4
   by_cases c5 : x8_1 < (a0.size : Int)
   rotate_left
   ·rw [if_neg c5] at H
    exact absurd H (by simp)
   rw [if_pos c5] at H
   have c5b0 : decide (x8_1 < (a0.size : Int)) = true := decide_eq_true c5
   clear c5; replace H := Option.bind_eq_some_iff.mp H
   obtain ⟨t280, A70, H⟩ := H
   (try dsimp only at H)
   have A7 := Aside0.mk A70; clear A70
   by_cases c8 : t280 = true
   ·subst c8
    rw [if_pos rfl] at H
    have H' := Aside0.mk H
    clear H
    have p6 : 0 ≤ (x8_1 : Int) := of_decide_eq_true (by first | (with_reducible assumption) | assumption)
    have q6 : x8_1 < (a0.size : Int) := of_decide_eq_true (by first | (with_reducible assumption) | assumption)
    have hx6 := bt_at a0 x8_1; replace p6 := eq_true p6; replace q6 := eq_true q6
    go_wp2_with (first | ((with_reducible refine gate_callee (f := 63) rfl ?_); refine goesL_ (some 15) rfl rfl Tryd.func63 (by kernel_rfl) rfl #[.int .u8 (bt a0 x8_1)] rfl (by (try simp only [List.map_toArray, List.map_cons, List.map_nil]) <;> rfl) ?_; (with_reducible refine (impl_isDigit.calls (bt a0 x8_1) true _ A7.out).mono ?_); rintro e w' ⟨rfl, ⟨nd, rfl⟩⟩; refine ⟨_, rfl, ?_⟩) | (go_at_call 63; (with_reducible refine (impl_isDigit.calls (bt a0 x8_1) true _ A7.out).mono ?_); rintro e w' ⟨rfl, ⟨nd, rfl⟩⟩))
    go_roundg k1
    case measure => have := HK1.out; omega
    case rel => exact ⟨(wrap64 (x8_1 + 1)), (by first | rfl | (simp; done) | (simp [*]; done)), H', ⟨by have := HK1.out; omega⟩, by repeat (first | exact Drawn0.refl _ | apply Drawn0.step)⟩
   replace c8 := Bool.eq_false_iff.mpr c8
   subst c8
   rw [if_neg (show ¬ (false = true) by decide)] at H
   obtain rfl := Option.some.inj H
   have p6 : 0 ≤ (x8_1 : Int) := of_decide_eq_true (by first | (with_reducible assumption) | assumption)
   have q6 : x8_1 < (a0.size : Int) := of_decide_eq_true (by first | (with_reducible assumption) | assumption)
   have hx6 := bt_at a0 x8_1; replace p6 := eq_true p6; replace q6 := eq_true q6
   go_wp2_with (first | ((with_reducible refine gate_callee (f := 63) rfl ?_); refine goesL_ (some 15) rfl rfl Tryd.func63 (by kernel_rfl) rfl #[.int .u8 (bt a0 x8_1)] rfl (by (try simp only [List.map_toArray, List.map_cons, List.map_nil]) <;> rfl) ?_; (with_reducible refine (impl_isDigit.calls (bt a0 x8_1) false _ A7.out).mono ?_); rintro e w' ⟨rfl, ⟨nd, rfl⟩⟩; refine ⟨_, rfl, ?_⟩) | (go_at_call 63; (with_reducible refine (impl_isDigit.calls (bt a0 x8_1) false _ A7.out).mono ?_); rintro e w' ⟨rfl, ⟨nd, rfl⟩⟩))
   go_ret
   exact ⟨by first | rfl | (simp; done) | (simp [*]; done), by repeat (first | exact Drawn0.refl _ | apply Drawn0.step)⟩
mutual
def impl_digits.j0 : Nat → ByteArray → Bool → Option (Int × Bool)
 | 0, _, _ => none
 | k + 1, x0, x20 => if x20 = true then (some (0, false)) else (impl_digits.l0 k x0 0 (x0.size : Int) 0)
def impl_digits.l0 : Nat → ByteArray → Int → Int → Int → Option (Int × Bool)
 | 0, _, _, _, _ => none
 | k + 1, x0, x8, x22, x23 => if x23 < x22 then (if 0 ≤ x23 then (if x23 < (x0.size : Int) then (impl_digits.l0 k x0 (wrap64 ((wrap64 (10 * x8)) + (((bt x0 x23) - 48) % 256))) x22 (wrap64 (x23 + 1))) else (none)) else (none)) else (some (x8, true))
end
def impl_digits.f (k : Nat) (a0 : ByteArray) (a1 : Int) (a2 : Int) : Option (Int × Bool) := (impl_between.f (a0.size : Int) a1 a2).bind fun t281 => (if t281 = true then ((impl_allBytes.f k a0).bind fun t282 => (impl_digits.j0 k a0 (!t282))) else (impl_digits.j0 k a0 true))
theorem impl_digits.mono_l : ∀ k, (∀ y0 y1, LeO (impl_digits.j0 k y0 y1) (impl_digits.j0 (k + 1) y0 y1)) ∧ (∀ y0 y1 y2 y3, LeO (impl_digits.l0 k y0 y1 y2 y3) (impl_digits.l0 (k + 1) y0 y1 y2 y3))
 | 0 => ⟨fun _ _ r h => by simp [impl_digits.j0] at h, fun _ _ _ _ r h => by simp [impl_digits.l0] at h⟩
 | k + 1 => by
  obtain ⟨ih0, ih1⟩ := impl_digits.mono_l k
  refine ⟨?_, ?_⟩
  ·intro y0 y1
   unfold impl_digits.j0
   repeat' first
   | (with_reducible exact ih0 _ _)
   | (with_reducible exact ih1 _ _ _ _)
   | (with_reducible exact impl_allBytes.mono _ _)
   | (with_reducible exact LeO.refl _)
   | (with_reducible exact LeO.none _)
   | (with_reducible refine LeO.ite ?_ ?_)
   | (with_reducible refine LeO.bind ?_ (fun _ => ?_))
  intro y0 y1 y2 y3
  unfold impl_digits.l0
  repeat' first
  | (with_reducible exact ih0 _ _)
  | (with_reducible exact ih1 _ _ _ _)
  | (with_reducible exact impl_allBytes.mono _ _)
  | (with_reducible exact LeO.refl _)
  | (with_reducible exact LeO.none _)
  | (with_reducible refine LeO.ite ?_ ?_)
  | (with_reducible refine LeO.bind ?_ (fun _ => ?_))
theorem impl_digits.mono : ∀ a0 a1 a2 k, LeO (impl_digits.f k a0 a1 a2) (impl_digits.f (k + 1) a0 a1 a2) := by
 intro a0 a1 a2 k
 obtain ⟨ih0, ih1⟩ := impl_digits.mono_l k
 unfold impl_digits.f
 repeat' first
   | (with_reducible exact ih0 _ _)
   | (with_reducible exact ih1 _ _ _ _)
   | (with_reducible exact impl_allBytes.mono _ _)
   | (with_reducible exact LeO.refl _)
   | (with_reducible exact LeO.none _)
   | (with_reducible refine LeO.ite ?_ ?_)
   | (with_reducible refine LeO.bind ?_ (fun _ => ?_))
set_option maxHeartbeats 8000000 in
set_option maxRecDepth 100000 in
theorem impl_digits.calls (k : Nat) (a0 : ByteArray) (a1 : Int) (a2 : Int) (r1 : Int) (r2 : Bool) (w : World) (h : impl_digits.f k a0 a1 a2 = some (r1, r2)) :
  Calls Tryd.prog 32 #[.string a0, .int .i64 a1, .int .i64 a2] w fun e w' => e = .returned (.tuple #[.int .i64 r1, .bool r2]) ∧ Drawn0 w w' := by
 have H : ((impl_between.f (a0.size : Int) a1 a2).bind fun t281 => (if t281 = true then ((impl_allBytes.f k a0).bind fun t282 => (impl_digits.j0 k a0 (!t282))) else (impl_digits.j0 k a0 true))) = some (r1, r2) := h
 clear h
 have HC4 := Aside0.mk H
 clear H
 go_enter Tryd.func32, Tryd.ntmps32
 go_upto_region 1 with (fail)
 go_cut [20] (fun v20 wc => ∃ (kq : Nat) (x20_3 : Bool), v20 = .bool x20_3 ∧ Aside0 (impl_digits.j0 kq a0 x20_3 = some (r1, r2)) ∧ Aside0 (kq ≤ k) ∧ Drawn0 w wc)
 case first =>
  have H := HC4.out
  clear HC4
  replace H := Option.bind_eq_some_iff.mp H
  obtain ⟨t281, A50, H⟩ := H
  (try dsimp only at H)
  have A5 := Aside0.mk A50
  clear A50
  by_cases c6 : t281 = true
  ·subst c6
   rw [if_pos rfl] at H; replace H := Option.bind_eq_some_iff.mp H
   obtain ⟨t282, A70, H⟩ := H
   (try dsimp only at H)
   have A7 := Aside0.mk A70; clear A70
   have H' := Aside0.mk H
   clear H
   go_wp2_with (first | ((with_reducible refine gate_callee (f := 48) rfl ?_); refine goesL_ (some 14) rfl rfl Tryd.func48 (by kernel_rfl) rfl #[.int .i64 (a0.size : Int), .int .i64 a1, .int .i64 a2] rfl (by (try simp only [List.map_toArray, List.map_cons, List.map_nil]) <;> rfl) ?_; (with_reducible refine (impl_between.calls (a0.size : Int) a1 a2 true _ A5.out).mono ?_); rintro e w' ⟨rfl, ⟨nd, rfl⟩⟩; refine ⟨_, rfl, ?_⟩) | (go_at_call 62; (with_reducible refine (impl_allBytes.calls k a0  t282 _ A7.out).mono ?_); rintro e w' ⟨rfl, ⟨nd, rfl⟩⟩))
   go_meet
   case rel => exact ⟨_, (!t282), (by first | rfl | (simp; done) | (simp [*]; done)), H', ⟨by first | omega | exact Nat.le_refl _⟩, by repeat (first | exact Drawn0.refl _ | apply Drawn0.step)⟩
  replace c6 := Bool.eq_false_iff.mpr c6
  subst c6
  rw [if_neg (show ¬ (false = true) by decide)] at H
  have H' := Aside0.mk H
  clear H
  go_wp2_with (first | ((with_reducible refine gate_callee (f := 48) rfl ?_); refine goesL_ (some 14) rfl rfl Tryd.func48 (by kernel_rfl) rfl #[.int .i64 (a0.size : Int), .int .i64 a1, .int .i64 a2] rfl (by (try simp only [List.map_toArray, List.map_cons, List.map_nil]) <;> rfl) ?_; (with_reducible refine (impl_between.calls (a0.size : Int) a1 a2 false _ A5.out).mono ?_); rintro e w' ⟨rfl, ⟨nd, rfl⟩⟩; refine ⟨_, rfl, ?_⟩))
  go_meet
  case rel => exact ⟨_, (true), (by first | rfl | (simp; done) | (simp [*]; done)), H', ⟨by first | omega | exact Nat.le_refl _⟩, by repeat (first | exact Drawn0.refl _ | apply Drawn0.step)⟩
 case rest =>
  clear HC4
  try clear p2
  try clear c3
  try clear c4
  try clear c6
  obtain ⟨kq, x20_3, rfl, HA, HJ3, ⟨mc3, rfl⟩⟩ := hcut
  cases kq with
  | zero => exact absurd HA.out (by simp [impl_digits.j0])
  | succ kj3 =>
   have H := HA.out; clear HA
   simp only [impl_digits.j0] at H
   by_cases c8 : x20_3 = true
   ·subst c8
    rw [if_pos rfl] at H
    simp only [Option.some.injEq, Prod.mk.injEq] at H
    obtain ⟨rfl, rfl⟩ := H
    go_wp2
    go_ret2
    exact ⟨by first | rfl | (simp; done) | (simp [*]; done), by repeat (first | exact Drawn0.refl _ | apply Drawn0.step)⟩
   replace c8 := Bool.eq_false_iff.mpr c8
   subst c8
   rw [if_neg (show ¬ (false = true) by decide)] at H
   have H' := Aside0.mk H
   clear H
   go_wp2
   go_loopg [8, 23] kj3 (fun kq v8 v23 w' => ∃ (x8_2 : Int) (x23_2 : Int), v8 = .int .i64 x8_2 ∧ v23 = .int .i64 x23_2 ∧ Aside0 (impl_digits.l0 kq a0 x8_2 (a0.size : Int) x23_2 = some (r1, r2)) ∧ Aside0 (kq ≤ kj3) ∧ Drawn0 w w')
   case atStart => exact ⟨(0), (0), (by first | rfl | (simp; done) | (simp [*]; done)), (by first | rfl | (simp; done) | (simp [*]; done)), H', ⟨Nat.le_refl _⟩, by repeat (first | exact Drawn0.refl _ | apply Drawn0.step)⟩
   case round =>
    clear H'
    try clear p2
    try clear c3
    try clear c4
    try clear c6
    try clear c8
    try clear p2
    obtain ⟨x8_2, x23_2, rfl, rfl, HA, HK2, ⟨m2, rfl⟩⟩ := hrel
    cases gk with
    | zero => exact absurd HA.out (by simp [impl_digits.l0])
    | succ k2 =>
     have H := HA.out; clear HA
     simp only [impl_digits.l0] at H
     by_cases c9 : x23_2 < (a0.size : Int)
     rotate_left
     ·rw [if_neg c9] at H
      have c9b0 : decide (x23_2 < (a0.size : Int)) = false := decide_eq_false c9
      clear c9
      simp only [Option.some.injEq, Prod.mk.injEq] at H
      obtain ⟨rfl, rfl⟩ := H
      go_wp2
      go_ret2
      exact ⟨by first | rfl | (simp; done) | (simp [*]; done), by repeat (first | exact Drawn0.refl _ | apply Drawn0.step)⟩
     rw [if_pos c9] at H
     have c9b0 : decide (x23_2 < (a0.size : Int)) = true := decide_eq_true c9
     clear c9
     by_cases c10 : 0 ≤ x23_2
     rotate_left
     ·rw [if_neg c10] at H
      exact absurd H (by simp)
     rw [if_pos c10] at H
     have c10b0 : decide (0 ≤ x23_2) = true := decide_eq_true c10
     clear c10
     by_cases c11 : x23_2 < (a0.size : Int)
     rotate_left
     ·rw [if_neg c11] at H
      exact absurd H (by simp)
     rw [if_pos c11] at H
     have c11b0 : decide (x23_2 < (a0.size : Int)) = true := decide_eq_true c11
     clear c11
     have H' := Aside0.mk H
     clear H
     have p12 : 0 ≤ (x23_2 : Int) := of_decide_eq_true (by first | (with_reducible assumption) | assumption)
     have q12 : x23_2 < (a0.size : Int) := of_decide_eq_true (by first | (with_reducible assumption) | assumption)
     have hx12 := bt_at a0 x23_2; replace p12 := eq_true p12; replace q12 := eq_true q12
     go_wp2
     go_roundg k2
     case measure => have := HJ3.out; have := HK2.out; omega
     case rel => exact ⟨(wrap64 ((wrap64 (10 * x8_2)) + (((bt a0 x23_2) - 48) % 256))), (wrap64 (x23_2 + 1)), (by first | rfl | (simp; done) | (simp [*]; done)), (by first | rfl | (simp; done) | (simp [*]; done)), H', ⟨by have := HJ3.out; have := HK2.out; omega⟩, by repeat (first | exact Drawn0.refl _ | apply Drawn0.step)⟩
def impl_LowerText.low (b : UInt8) : UInt8 := if 65 ≤ b.toNat ∧ b.toNat ≤ 90 then b + 32 else b
theorem impl_LowerText.low_toNat (b : UInt8) : ((impl_LowerText.low b).toNat : Int) = if 65 ≤ (b.toNat : Int) ∧ (b.toNat : Int) ≤ 90 then ((b.toNat : Int) + 32) % 256 else (b.toNat : Int) := by
 unfold impl_LowerText.low
 by_cases h : 65 ≤ b.toNat ∧ b.toNat ≤ 90
 ·rw [if_pos h, if_pos (by omega)]
  rw [UInt8.toNat_add]
  rfl
 rw [if_neg h, if_neg (by omega)]
def impl_LowerText.f (a0 : ByteArray) : Option (ByteArray) := if a0.size ≤ 9223372036854775807 then some ⟨(a0.data.toList.map impl_LowerText.low).toArray⟩ else none
def impl_LowerText.byte (l : List UInt8) (i j : Nat) : UInt8 := if j < i then impl_LowerText.low (l.getD j 0) else l.getD j 0
theorem impl_LowerText.byte_step (l : List UInt8) (i j : Nat) : impl_LowerText.byte l (i + 1) j = if j = i then impl_LowerText.low (l.getD i 0) else impl_LowerText.byte l i j := by
 unfold impl_LowerText.byte
 by_cases e : j = i
 ·subst e
  rw [if_pos (by omega), if_pos rfl]
 rw [if_neg e]
 by_cases q : j < i
 ·rw [if_pos q, if_pos (by omega)]
 rw [if_neg q, if_neg (by omega)]
theorem impl_LowerText.keep {w W : World} {l : List UInt8} {n i : Nat} (b : UInt8) (hb : b = l.getD i 0) (hl : impl_LowerText.low b = b) (h : ∀ j, j < n → W.cell? ⟨w.heap.size, j, none⟩ = some (.int .u8 (impl_LowerText.byte l i j).toNat)) :
  ∀ j, j < n → W.cell? ⟨w.heap.size, j, none⟩ = some (.int .u8 (impl_LowerText.byte l (i + 1) j).toNat) := by
 intro j hj
 rw [h j hj, impl_LowerText.byte_step]
 by_cases e : j = i
 ·subst e
  rw [if_pos rfl, ← hb, hl]
  unfold impl_LowerText.byte
  rw [if_neg (Nat.lt_irrefl _), ← hb]
 rw [if_neg e]
theorem impl_LowerText.put {w W : World} {l : List UInt8} {n i : Nat} (b : UInt8) (x y : Int) (hb : b = l.getD i 0) (hl : y = ((impl_LowerText.low b).toNat : Int)) (hc : W.cell? ⟨w.heap.size, i, none⟩ = some (.int .u8 x)) (h : ∀ j, j < n → W.cell? ⟨w.heap.size, j, none⟩ = some (.int .u8 (impl_LowerText.byte l i j).toNat)) :
  ∀ j, j < n → (W.setCell ⟨w.heap.size, i, none⟩ (.int .u8 y)).cell? ⟨w.heap.size, j, none⟩ = some (.int .u8 (impl_LowerText.byte l (i + 1) j).toNat) := by
 intro j hj
 rw [impl_LowerText.byte_step]
 by_cases e : j = i
 ·subst e
  rw [World.cell?_setCell_same _ _ _ hc, if_pos rfl, ← hb, hl]
 rw [if_neg e, World.cell?_setCell_other _ _ _ _ (by intro q; injection q with _ q2; exact e q2.symm), h j hj]
theorem impl_LowerText.frozen_new (w : World) (s : ByteArray) (j : Nat) (hj : j < s.size) : (Lib.bytesWorld w 5 s).frozen? ⟨w.heap.size, j, none⟩ = false := by
 have hs : s.size ≤ (Lib.bytesCells w 5 s).size := by simp [Lib.bytesCells]
 simp [World.frozen?, Lib.bytesWorld_at_new]
 omega
set_option maxHeartbeats 8000000 in
set_option maxRecDepth 100000 in
theorem impl_LowerText.calls (a0 : ByteArray) (r : ByteArray) (w : World) (h : impl_LowerText.f a0 = some r) :
  Calls Tryd.prog 13 #[.string a0] w fun e w' => e = .returned (.string r) ∧ Below w.heap.size w w' := by
 unfold impl_LowerText.f at h
 by_cases hb : a0.size ≤ 9223372036854775807
 ·rw [if_pos hb] at h
  obtain rfl := Option.some.inj h
  clear h
  have hcv := Lib.run_convert_string_bytes (P := Tryd.prog) w 9 22 5 a0 Tryd.underlying9 Tryd.underlying22 Tryd.underlying5
  have hbl : Below w.heap.size w (Lib.bytesWorld w 5 a0) := ⟨rfl, rfl, rfl, by rw [Lib.bytesWorld_size]; omega, fun k hk => Lib.bytesWorld_at_old w 5 a0 k hk⟩
  have hcs : ∀ j, j < a0.size → (Lib.bytesWorld w 5 a0).cell? ⟨w.heap.size, j, none⟩ = some (.int .u8 (impl_LowerText.byte a0.data.toList 0 j).toNat) := by
   intro j hj
   rw [Lib.bytesWorld_cell w 5 a0 j hj]
   unfold impl_LowerText.byte
   rw [if_neg (by omega)]
  have hfz : ∀ j, j < a0.size → (Lib.bytesWorld w 5 a0).frozen? ⟨w.heap.size, j, none⟩ = false := fun j hj => impl_LowerText.frozen_new w a0 j hj
  have hback : ∀ (W : World) (c : Nat), (∀ j, j < a0.size → W.cell? ⟨w.heap.size, j, none⟩ = some (.int .u8 (impl_LowerText.byte a0.data.toList a0.size j).toNat)) → (convert 22 9 (.slice (some ⟨w.heap.size, 0, none⟩) a0.size c)).run Tryd.prog W = .ok (.string ⟨(a0.data.toList.map impl_LowerText.low).toArray⟩) W := by
   intro W c hW
   have hl : a0.size = (a0.data.toList.map impl_LowerText.low).length := by rw [List.length_map]; rfl
   have e := run_convert_bytes_back (P := Tryd.prog) W 22 9 5 ⟨w.heap.size, 0, none⟩ c (a0.data.toList.map impl_LowerText.low) Tryd.underlying22 Tryd.underlying5 Tryd.underlying9 (fun j hj => by
    have hj' : j < a0.size := by rw [hl]; exact hj
    have e2 := hW j hj'
    have e3 : impl_LowerText.byte a0.data.toList a0.size j = (a0.data.toList.map impl_LowerText.low)[j] := by
     unfold impl_LowerText.byte
     rw [if_pos hj', List.getElem_map, List.getD_eq_getElem?_getD, List.getElem?_eq_getElem (by simpa using hj)]
     rfl
    rw [e3] at e2
    have ea : (⟨w.heap.size, 0, none⟩ : Addr).add j = ⟨w.heap.size, j, none⟩ := by
     cases j with
     | zero => rfl
     | succ j => unfold Addr.add; rw [if_neg (by omega), Nat.zero_add]
    rw [ea]
    exact e2)
   rw [← hl] at e
   exact e
  have hB : Aside0 (Below w.heap.size w (Lib.bytesWorld w 5 a0)) := ⟨hbl⟩
  have HC : Aside0 (∀ j, j < a0.size → (Lib.bytesWorld w 5 a0).cell? ⟨w.heap.size, j, none⟩ = some (.int .u8 (impl_LowerText.byte a0.data.toList 0 j).toNat)) := ⟨hcs⟩
  have HF : Aside0 (∀ j, j < a0.size → (Lib.bytesWorld w 5 a0).frozen? ⟨w.heap.size, j, none⟩ = false) := ⟨hfz⟩
  have HK := Aside0.mk hback
  clear hcs hfz hbl hback
  obtain ⟨cap, hcap⟩ : ∃ cap, cap = grownCap w a0.size 0 5 := ⟨_, rfl⟩
  rw [← hcap] at hcv
  clear hcap
  generalize Lib.bytesWorld w 5 a0 = W0 at hcv HC HF hB
  obtain ⟨n, hn⟩ : ∃ n, Aside0 (n = a0.size) := ⟨_, ⟨rfl⟩⟩
  rw [← hn.out] at hcv HC HF HK hb
  clear hn
  go_enter Tryd.func13, Tryd.ntmps13
  go_wp2
  go_loopg [10] n (fun gg v10 wr => ∃ (i : Nat), v10 = .int .i64 i ∧ i ≤ n ∧ n - i ≤ gg ∧ Aside0 (Below w.heap.size w wr) ∧ Aside0 (∀ j, j < n → wr.cell? ⟨w.heap.size, j, none⟩ = some (.int .u8 (impl_LowerText.byte a0.data.toList i j).toNat)) ∧ Aside0 (∀ j, j < n → wr.frozen? ⟨w.heap.size, j, none⟩ = false))
  case atStart => exact ⟨0, by first | rfl | (simp; done), Nat.zero_le _, by omega, hB, HC, HF⟩
  case round =>
   obtain ⟨i, rfl, hi, hg, RB, RC, RF⟩ := hrel
   by_cases hlt : i < n
   ·have hltz : (i : Int) < (n : Int) := by omega
    have h0 : (0 : Int) ≤ (i : Int) := by omega
    have hd : decide ((i : Int) < (n : Int)) = true := decide_eq_true hltz
    have hc := RC.out i hlt; have hf := RF.out i hlt
    have hby : impl_LowerText.byte a0.data.toList i i = a0.data.toList.getD i 0 := by unfold impl_LowerText.byte; rw [if_neg (Nat.lt_irrefl _)]
    rw [hby] at hc
    clear hby
    obtain ⟨b, hbq⟩ : ∃ b, Aside0 (b = a0.data.toList.getD i 0) := ⟨_, ⟨rfl⟩⟩
    rw [← hbq.out] at hc
    obtain ⟨x, hx⟩ : ∃ x : Int, Aside0 (x = (b.toNat : Int)) := ⟨_, ⟨rfl⟩⟩
    rw [← hx.out] at hc
    clear hcv
    by_cases c1 : 65 ≤ x
    ·have c1b : decide (65 ≤ x) = true := decide_eq_true c1
     by_cases c2 : x ≤ 90
     ·have c2b : decide (x ≤ 90) = true := decide_eq_true c2
      go_wp2
      go_roundg (n - (i + 1))
      case measure => omega
      case rel =>
       refine ⟨i + 1, by first | rfl | go_num, by omega, by omega, ⟨RB.out.setCell (Nat.le_refl _) _⟩, ⟨impl_LowerText.put b x (x + 32) hbq.out ?_ hc RC.out⟩, ⟨fun j hj => by rw [World.frozen?_setCell]; exact RF.out j hj⟩⟩
       have hx2 := hx.out; have hl := impl_LowerText.low_toNat b
       rw [← hx2, if_pos ⟨c1, c2⟩] at hl
       rw [hl]
       omega
     have c2b : decide (x ≤ 90) = false := decide_eq_false c2
     go_wp2
     go_roundg (n - (i + 1))
     case measure => omega
     case rel =>
      refine ⟨i + 1, by first | rfl | go_num, by omega, by omega, RB, ⟨impl_LowerText.keep b hbq.out ?_ RC.out⟩, RF⟩
      have hx2 := hx.out
      unfold impl_LowerText.low
      rw [if_neg (by omega)]
    have c1b : decide (65 ≤ x) = false := decide_eq_false c1
    go_wp2
    go_roundg (n - (i + 1))
    case measure => omega
    case rel =>
     refine ⟨i + 1, by first | rfl | go_num, by omega, by omega, RB, ⟨impl_LowerText.keep b hbq.out ?_ RC.out⟩, RF⟩
     have hx2 := hx.out
     unfold impl_LowerText.low
     rw [if_neg (by omega)]
   obtain rfl : i = n := by omega
   have hltz : decide ((i : Int) < (i : Int)) = false := decide_eq_false (by omega)
   have hbk := HK.out wr cap RC.out; clear hcv
   go_wp2
   go_ret
   exact ⟨rfl, RB.out⟩
 rw [if_neg hb] at h
 cases h
def impl_SameText.f (a0 : ByteArray) (a1 : ByteArray) : Option (Bool) := (impl_LowerText.f a0).bind fun t283 => ((impl_LowerText.f a1).bind fun t284 => (some (t283.toList == t284.toList)))
set_option maxHeartbeats 8000000 in
set_option maxRecDepth 100000 in
theorem impl_SameText.calls (a0 : ByteArray) (a1 : ByteArray) (r : Bool) (w : World) (h : impl_SameText.f a0 a1 = some r) :
  Calls Tryd.prog 35 #[.string a0, .string a1] w fun e w' => e = .returned (.bool r) ∧ Below w.heap.size w w' := by
 have HB := Aside0.mk (Below.refl w.heap.size w)
 have H : ((impl_LowerText.f a0).bind fun t283 => ((impl_LowerText.f a1).bind fun t284 => (some (t283.toList == t284.toList)))) = some r := h
 clear h
 replace H := Option.bind_eq_some_iff.mp H
 obtain ⟨t283, A30, H⟩ := H
 (try dsimp only at H)
 have A3 := Aside0.mk A30
 clear A30
 replace H := Option.bind_eq_some_iff.mp H
 obtain ⟨t284, A40, H⟩ := H
 (try dsimp only at H)
 have A4 := Aside0.mk A40
 clear A40
 obtain rfl := Option.some.inj H
 go_enter Tryd.func35, Tryd.ntmps35
 go_wp2_with (first | ((with_reducible refine gate_callee (f := 13) rfl ?_); refine goesL_ (some 6) rfl rfl Tryd.func13 (by kernel_rfl) rfl #[.string a0] rfl (by (try simp only [List.map_toArray, List.map_cons, List.map_nil]) <;> rfl) ?_; (with_reducible refine (impl_LowerText.calls a0 t283 _ A3.out).mono ?_); rintro e w5 ⟨rfl, hb⟩; refine ⟨_, rfl, ?_⟩; have n0_ := Aside0.mk (below_step (by repeat (with_reducible first | exact HB.out | apply Be | apply Bc | apply Bd)) hb); clear HB; have HB := n0_; clear n0_; (try clear hb); (try clear hb2); (try clear hk); (try clear hi)) | ((with_reducible refine gate_callee (f := 13) rfl ?_); refine goesL_ (some 8) rfl rfl Tryd.func13 (by kernel_rfl) rfl #[.string a1] rfl (by (try simp only [List.map_toArray, List.map_cons, List.map_nil]) <;> rfl) ?_; (with_reducible refine (impl_LowerText.calls a1 t284 _ A4.out).mono ?_); rintro e w6 ⟨rfl, hb⟩; refine ⟨_, rfl, ?_⟩; have n0_ := Aside0.mk (below_step (by repeat (with_reducible first | exact HB.out | apply Be | apply Bc | apply Bd)) hb); clear HB; have HB := n0_; clear n0_; (try clear hb); (try clear hb2); (try clear hk); (try clear hi)))
 go_ret
 exact ⟨by first | rfl | (simp [errW_none, errW_some] <;> rfl) | (simp [*, errW_none, errW_some] <;> rfl), by repeat (with_reducible first | exact HB.out | apply Be | apply Bc | apply Bd)⟩
def impl_parseTime.go (k : Nat) : List ByteArray → Nat → Int → Int → Int → Option (Int × Int × Int × Bool)
 | [], _, a, b, c => some (a, b, c, true)
 | p :: r, i, a, b, c => (impl_digits.f k p 2 2).bind fun q => if q.2 = true then impl_parseTime.go k r (i + 1) (if i = 0 then q.1 else a) (if i = 1 then q.1 else b) (if i = 2 then q.1 else c) else some (a, b, c, false)
def impl_parseTime.f (k : Nat) (a0 : ByteArray) : Option (Int × Int × Int × Bool) := (strings_Split.f a0 ⟨#[58]⟩).bind fun ps => (impl_between.f (ps.length : Int) 2 3).bind fun t => if t = true ∧ 2 ≤ ps.length ∧ ps.length ≤ 3 then impl_parseTime.go k ps 0 0 0 0 else if t = true then none else some (0, 0, 0, false)
theorem impl_parseTime.go_mono (k : Nat) : ∀ (l : List ByteArray) (i : Nat) (a b c : Int), LeO (impl_parseTime.go k l i a b c) (impl_parseTime.go (k + 1) l i a b c)
 | [], _, _, _, _ => LeO.refl _
 | p :: r, i, a, b, c => by
  unfold impl_parseTime.go
  exact LeO.bind (impl_digits.mono _ _ _ _) (fun _ => LeO.ite (impl_parseTime.go_mono k r _ _ _ _) (LeO.refl _))
theorem impl_parseTime.mono : ∀ a0 k, LeO (impl_parseTime.f k a0) (impl_parseTime.f (k + 1) a0) := by
 intro a0 k
 unfold impl_parseTime.f
 exact LeO.bind (LeO.refl _) (fun _ => LeO.bind (LeO.refl _) (fun _ => LeO.ite (impl_parseTime.go_mono k _ _ _ _ _) (LeO.refl _)))
theorem impl_parseTime.row {W : World} {base : Nat} {ok : Nat → Prop} {v : Value} {ps : List ByteArray} (ho : Kd.R Kd.string 9 W base ok v ps) (hp : 0 < ps.length) :
  ∃ g c, v = .slice (some ⟨g, 0, none⟩) ps.length c ∧ base ≤ g ∧ g < W.heap.size ∧ ∀ (j : Nat) p, ps[j]? = some p → W.cell? ⟨g, j, none⟩ = some (.string p) := by
 obtain ⟨g, c, rfl, hg0, hg1, -⟩ := Kd.R_form ho hp
 refine ⟨g, c, rfl, hg0, hg1, fun j p hj => ?_⟩
 have hj2 := (List.getElem?_eq_some_iff.1 hj).1
 have e1 := (Kd.R_cell ByteArray.empty ho (j : Int) (by omega) (by omega)).1
 rw [Int.toNat_natCast] at e1
 rw [e1]
 unfold rdOf
 rw [List.getD_eq_getElem?_getD, Int.toNat_natCast, hj]
 rfl
set_option maxHeartbeats 8000000 in
set_option maxRecDepth 100000 in
theorem impl_parseTime.calls (k : Nat) (a0 : ByteArray) (r1 : Int) (r2 : Int) (r3 : Int) (r4 : Bool) (w : World) (h : impl_parseTime.f k a0 = some (r1, r2, r3, r4)) :
  Calls Tryd.prog 36 #[.string a0] w fun e w' => e = .returned (.tuple #[.agg #[.int .i64 r1, .int .i64 r2, .int .i64 r3], .bool r4]) ∧ Below w.heap.size w w' := by
 obtain ⟨ps, A20, H⟩ := Option.bind_eq_some_iff.mp h
 clear h
 have A2 := Aside0.mk A20
 clear A20
 obtain ⟨t, A30, H⟩ := Option.bind_eq_some_iff.mp H
 have A3 := Aside0.mk A30
 clear A30
 cases t with
 | false =>
  rw [if_neg (by simp), if_neg (by simp)] at H
  have e := Option.some.inj H
  obtain ⟨rfl, rfl, rfl, rfl⟩ : 0 = r1 ∧ 0 = r2 ∧ 0 = r3 ∧ false = r4 := ⟨congrArg (·.1) e, congrArg (·.2.1) e, congrArg (·.2.2.1) e, congrArg (·.2.2.2) e⟩
  clear H e
  go_enter Tryd.func36, Tryd.ntmps36
  go_wp2_with (first | (go_at_call 30; refine (strings_Split.calls a0 ⟨#[58]⟩ ps _ A2.out).mono ?_; rintro e w1 ⟨v, rfl, ho, hb⟩; obtain ⟨A, c, rfl⟩ := Kd.R_slice ho; have BK := Aside0.mk (blk_below (blk_new w _) hb); have hlt : w.heap.size < w1.heap.size := blk_lt BK.out; have c0 : w1.cell? ⟨w.heap.size, 0, none⟩ = some (.int .i64 0) := (Ba BK.out 0).trans rfl; have c1 : w1.cell? ⟨w.heap.size, 1, none⟩ = some (.int .i64 0) := (Ba BK.out 1).trans rfl; have c2 : w1.cell? ⟨w.heap.size, 2, none⟩ = some (.int .i64 0) := (Ba BK.out 2).trans rfl; have f0 := Bb BK.out 0; have f1 := Bb BK.out 1; have f2 := Bb BK.out 2; have HB := Aside0.mk (((Below.refl _ w).alloc (Nat.le_refl _) _).trans (hb.mono (by simp))); clear ho hb) | (go_at_call 48; refine (impl_between.calls _ 2 3 false _ A3.out).mono ?_; rintro e w2 ⟨rfl, ⟨nd, rfl⟩⟩))
  refine bodyPost_ret (results_ct rfl _ _ w.heap.size 52 #[.int .i64 0, .int .i64 0, .int .i64 0] (0, 0) _ rfl (blk_put (cs := #[.int .i64 0, .int .i64 0, .int .i64 0]) (blk_put (cs := #[.int .i64 0, .int .i64 0, .int .i64 0]) (blk_put (cs := #[.int .i64 0, .int .i64 0, .int .i64 0]) (Bf (Bg BK.out _) _) 0 _ rfl) 1 _ rfl) 2 _ rfl) Tryd.underlying52 rfl (by kernel_rfl)) rfl ?_
  exact ⟨rfl, (((Bc (HB.out.alloc (Nat.le_of_lt hlt) _) _).setCell (Nat.le_refl _) _).setCell (Nat.le_refl _) _).setCell (Nat.le_refl _) _⟩
 | true =>
  by_cases hl : 2 ≤ ps.length ∧ ps.length ≤ 3
  ·rw [if_pos ⟨rfl, hl⟩] at H
   have HG := Aside0.mk H; clear H
   go_enter Tryd.func36, Tryd.ntmps36
   go_wp2_with (first | (go_at_call 30; refine (strings_Split.calls a0 ⟨#[58]⟩ ps _ A2.out).mono ?_; rintro e w1 ⟨v, rfl, ho, hb⟩; obtain ⟨g, c, rfl, hg0, hg1, hcw⟩ := impl_parseTime.row ho (by omega); have BK := Aside0.mk (blk_below (blk_new w _) hb); have hlt : w.heap.size < w1.heap.size := blk_lt BK.out; have CW := Aside0.mk hcw; have HB := Aside0.mk (((Below.refl _ w).alloc (Nat.le_refl _) _).trans (hb.mono (by simp))); have hg2 : w.heap.size < g := Nat.lt_of_lt_of_le (by simp) hg0; clear ho hb hg0 hcw) | (go_at_call 48; refine (impl_between.calls _ 2 3 true _ A3.out).mono ?_; rintro e w2 ⟨rfl, ⟨nd, rfl⟩⟩))
   go_loopg [20] ps.length (fun gg v20 wr => ∃ (i : Nat) (a b c : Int), v20 = .int .i64 i ∧ i ≤ ps.length ∧ ps.length - i ≤ gg ∧ Aside0 (impl_parseTime.go k (ps.drop i) i a b c = some (r1, r2, r3, r4)) ∧ Aside0 (wr.heap[w.heap.size]? = some (.cells #[.int .i64 0, .int .i64 0, .int .i64 0] 52 (0, 0))) ∧ Aside0 (wr.heap[w1.heap.size]? = some (.cells #[.int .i64 a, .int .i64 b, .int .i64 c] 52 (0, 0))) ∧ Aside0 (∀ (j : Nat) p, ps[j]? = some p → wr.cell? ⟨g, j, none⟩ = some (.string p)) ∧ Aside0 (Below w.heap.size w wr))
   case atStart => exact ⟨0, 0, 0, 0, by first | rfl | (simp; done), by omega, by omega, HG, ⟨Bf (Bg BK.out _) _⟩, ⟨Bf (blk_new _ _) _⟩, ⟨fun j p hj => (World.cell?_alloc_past _ _ _ hg1).trans (CW.out j p hj)⟩, ⟨Bc (HB.out.alloc (Nat.le_of_lt hlt) _) _⟩⟩
   case round =>
    clear HG BK CW HB
    obtain ⟨i, a, b, c', rfl, hi, hgk, RG, R2, R4, RW, RB⟩ := hrel
    have c20 : wr.cell? ⟨w.heap.size, 0, none⟩ = some (.int .i64 0) := (Ba R2.out 0).trans rfl
    have c21 : wr.cell? ⟨w.heap.size, 1, none⟩ = some (.int .i64 0) := (Ba R2.out 1).trans rfl
    have c22 : wr.cell? ⟨w.heap.size, 2, none⟩ = some (.int .i64 0) := (Ba R2.out 2).trans rfl
    have f20 := Bb R2.out 0; have f21 := Bb R2.out 1; have f22 := Bb R2.out 2
    have c40 : wr.cell? ⟨w1.heap.size, 0, none⟩ = some (.int .i64 a) := (Ba R4.out 0).trans rfl
    have c41 : wr.cell? ⟨w1.heap.size, 1, none⟩ = some (.int .i64 b) := (Ba R4.out 1).trans rfl
    have c42 : wr.cell? ⟨w1.heap.size, 2, none⟩ = some (.int .i64 c') := (Ba R4.out 2).trans rfl
    have f40 := Bb R4.out 0; have f41 := Bb R4.out 1; have f42 := Bb R4.out 2
    by_cases hlt2 : i < ps.length
    ·obtain ⟨p, hp⟩ : ∃ p, ps[i]? = some p := ⟨ps[i], List.getElem?_eq_getElem hlt2⟩
     have hdrop : ps.drop i = p :: ps.drop (i + 1) := by
      rw [List.drop_eq_getElem_cons hlt2]
      rw [List.getElem?_eq_getElem hlt2] at hp
      rw [Option.some.inj hp]
     have H := RG.out
     rw [hdrop] at H
     unfold impl_parseTime.go at H
     obtain ⟨⟨n, ok⟩, D, H⟩ := Option.bind_eq_some_iff.mp H
     have hcw := RW.out i p hp
     have hd : decide ((i : Int) < (ps.length : Int)) = true := decide_eq_true (by omega)
     have hq : (i : Int) < (ps.length : Int) := by omega
     clear hdrop RG; have HD := Aside0.mk D; have HH := Aside0.mk H; clear D H
     cases ok with
     | false =>
      have H := HH.out
      rw [if_neg (by simp)] at H
      have e := Option.some.inj H
      obtain ⟨rfl, rfl, rfl, rfl⟩ : a = r1 ∧ b = r2 ∧ c' = r3 ∧ false = r4 := ⟨congrArg (·.1) e, congrArg (·.2.1) e, congrArg (·.2.2.1) e, congrArg (·.2.2.2) e⟩
      clear H e HH
      go_wp2_with (first | (go_at_call 32; refine (impl_digits.calls k p 2 2 n false _ HD.out).mono ?_; rintro e w3 ⟨rfl, ⟨nd3, rfl⟩⟩))
      refine bodyPost_ret (results_ct rfl _ _ w.heap.size 52 #[.int .i64 a, .int .i64 b, .int .i64 c'] (0, 0) _ rfl (blk_put (cs := #[.int .i64 a, .int .i64 b, .int .i64 0]) (blk_put (cs := #[.int .i64 a, .int .i64 0, .int .i64 0]) (blk_put (cs := #[.int .i64 0, .int .i64 0, .int .i64 0]) (Bf R2.out _) 0 _ rfl) 1 _ rfl) 2 _ rfl) Tryd.underlying52 rfl (by kernel_rfl)) rfl ?_
      exact ⟨rfl, (((Bc RB.out _).setCell (Nat.le_refl _) _).setCell (Nat.le_refl _) _).setCell (Nat.le_refl _) _⟩
     | true =>
      have hcase : i = 0 ∨ i = 1 ∨ i = 2 := by omega
      have H := HH.out
      rw [if_pos rfl] at H
      have HN := Aside0.mk H; clear H HH
      rcases hcase with rfl | rfl | rfl
      ·go_wp2_with (first | (go_at_call 32; refine (impl_digits.calls k p 2 2 n true _ HD.out).mono ?_; rintro e w3 ⟨rfl, ⟨nd3, rfl⟩⟩))
       go_roundg (ps.length - 1)
       case measure => omega
       case rel => exact ⟨1, n, b, c', by first | rfl | (simp; done), by omega, by omega, HN, ⟨blk_far (Bf R2.out _) (Nat.ne_of_lt hlt) _⟩, ⟨blk_put (Bf R4.out _) 0 _ rfl⟩, ⟨fun j p hj => (World.cell?_setCell_far _ _ _ _ (Nat.ne_of_gt hg1)).trans (RW.out j p hj)⟩, ⟨(Bc RB.out _).setCell (Nat.le_of_lt hlt) _⟩⟩
      ·go_wp2_with (first | (go_at_call 32; refine (impl_digits.calls k p 2 2 n true _ HD.out).mono ?_; rintro e w3 ⟨rfl, ⟨nd3, rfl⟩⟩))
       go_roundg (ps.length - 2)
       case measure => omega
       case rel => exact ⟨2, a, n, c', by first | rfl | (simp; done), by omega, by omega, HN, ⟨blk_far (Bf R2.out _) (Nat.ne_of_lt hlt) _⟩, ⟨blk_put (Bf R4.out _) 1 _ rfl⟩, ⟨fun j p hj => (World.cell?_setCell_far _ _ _ _ (Nat.ne_of_gt hg1)).trans (RW.out j p hj)⟩, ⟨(Bc RB.out _).setCell (Nat.le_of_lt hlt) _⟩⟩
      go_wp2_with (first | (go_at_call 32; refine (impl_digits.calls k p 2 2 n true _ HD.out).mono ?_; rintro e w3 ⟨rfl, ⟨nd3, rfl⟩⟩))
      go_roundg (ps.length - 3)
      case measure => omega
      case rel => exact ⟨3, a, b, n, by first | rfl | (simp; done), by omega, by omega, HN, ⟨blk_far (Bf R2.out _) (Nat.ne_of_lt hlt) _⟩, ⟨blk_put (Bf R4.out _) 2 _ rfl⟩, ⟨fun j p hj => (World.cell?_setCell_far _ _ _ _ (Nat.ne_of_gt hg1)).trans (RW.out j p hj)⟩, ⟨(Bc RB.out _).setCell (Nat.le_of_lt hlt) _⟩⟩
    obtain rfl : i = ps.length := by omega
    have H := RG.out
    rw [List.drop_length] at H
    unfold impl_parseTime.go at H
    have e := Option.some.inj H
    obtain ⟨rfl, rfl, rfl, rfl⟩ : a = r1 ∧ b = r2 ∧ c' = r3 ∧ true = r4 := ⟨congrArg (·.1) e, congrArg (·.2.1) e, congrArg (·.2.2.1) e, congrArg (·.2.2.2) e⟩
    have hd : decide ((ps.length : Int) < (ps.length : Int)) = false := decide_eq_false (by omega)
    clear H e RG
    go_wp2
    refine bodyPost_ret (results_ct rfl _ _ w.heap.size 52 #[.int .i64 a, .int .i64 b, .int .i64 c'] (0, 0) _ rfl (blk_put (cs := #[.int .i64 a, .int .i64 b, .int .i64 0]) (blk_put (cs := #[.int .i64 a, .int .i64 0, .int .i64 0]) (blk_put (cs := #[.int .i64 0, .int .i64 0, .int .i64 0]) (R2.out) 0 _ rfl) 1 _ rfl) 2 _ rfl) Tryd.underlying52 rfl (by kernel_rfl)) rfl ?_
    exact ⟨rfl, ((RB.out.setCell (Nat.le_refl _) _).setCell (Nat.le_refl _) _).setCell (Nat.le_refl _) _⟩
  rw [if_neg (fun q => hl q.2), if_pos rfl] at H
  cases H
end Go.Proofs.YtafpbechcjcdbaaDoor.PFnDateText
