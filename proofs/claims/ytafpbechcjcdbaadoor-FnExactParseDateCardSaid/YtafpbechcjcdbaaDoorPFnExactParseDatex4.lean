-- Written by a program of this session (wip/tool/myprint.py) out of the translation.
import Derived.Test.YtafpbechcjcdbaaDoorPFnExactParseDatex0
import Derived.Test.YtafpbechcjcdbaaDoorPFnExactParseDatex1
import Derived.Test.YtafpbechcjcdbaaDoorPFnExactParseDatex3
namespace Go.Proofs.YtafpbechcjcdbaaDoor.PFnExactParseDate
open Go.RowKit Go.Proofs.YtafpbechcjcdbaaDoorW.PrintWords Go.Proofs.YtafpbechcjcdbaaDoorW.PrintLast Go.Proofs.YtafpbechcjcdbaaDoorW.PrintMore
open Go.Proofs.YtafpbechcjcdbaaDoorW.PrintWords renaming blk_cell → Ba, blk_frozen → Bb, pw_below_drewN → Bc, blk_drewN → Bf, blk_alloc → Bg
attribute [local go_sem] max2_int min2_int max_two min_two max_three min_three max_four min_four   -- for this text's walks alone
set_option linter.unusedVariables false
set_option linter.unusedSimpArgs false

/-! ### impl_parseTime: function 36, by hand -/
def impl_parseTime.go (k : Nat) : List ByteArray → Nat → Int → Int → Int → Option (Int × Int × Int × Bool)
 | [], _, a, b, c => some (a, b, c, true)
 | p :: r, i, a, b, c => (impl_digits.f k p 2 2).bind fun q => if q.2 = true then impl_parseTime.go k r (i + 1) (if i = 0 then q.1 else a) (if i = 1 then q.1 else b) (if i = 2 then q.1 else c) else some (a, b, c, false)
def impl_parseTime.f (k : Nat) (a0 : ByteArray) : Option (Int × Int × Int × Bool) := (strings_Split.f a0 ⟨#[58]⟩).bind fun ps => (impl_between.f (ps.length : Int) 2 3).bind fun t => if t = true ∧ 2 ≤ ps.length ∧ ps.length ≤ 3 then impl_parseTime.go k ps 0 0 0 0 else if t = true then none else some (0, 0, 0, false)
theorem impl_parseTime.go_mono (k : Nat) : ∀ (l : List ByteArray) (i : Nat) (a b c : Int), LeO (impl_parseTime.go k l i a b c) (impl_parseTime.go (k + 1) l i a b c)
 | [], _, _, _, _ => LeO.refl _
 | p :: r, i, a, b, c => by
  unfold impl_parseTime.go
  exact LeO.bind (impl_digits.mono _ _ _ _) (fun _ => LeO.ite (impl_parseTime.go_mono k r _ _ _ _) (LeO.refl _))
theorem impl_parseTime.mono : ∀ a0 k, LeO (impl_parseTime.f k a0) (impl_parseTime.f (k + 1) a0) := by
 intro a0 k
 unfold impl_parseTime.f
 exact LeO.bind (LeO.refl _) (fun _ => LeO.bind (LeO.refl _) (fun _ => LeO.ite (impl_parseTime.go_mono k _ _ _ _ _) (LeO.refl _)))
theorem impl_parseTime.row {W : World} {base : Nat} {ok : Nat → Prop} {v : Value} {ps : List ByteArray} (ho : Kd.R Kd.string 9 W base ok v ps) (hp : 0 < ps.length) :
  ∃ g c, v = .slice (some ⟨g, 0, none⟩) ps.length c ∧ base ≤ g ∧ g < W.heap.size ∧ ∀ (j : Nat) p, ps[j]? = some p → W.cell? ⟨g, j, none⟩ = some (.string p) := by
 obtain ⟨g, c, rfl, hg0, hg1, -⟩ := Kd.R_form ho hp
 refine ⟨g, c, rfl, hg0, hg1, fun j p hj => ?_⟩
 have hj2 := (List.getElem?_eq_some_iff.1 hj).1
 have e1 := (Kd.R_cell ByteArray.empty ho (j : Int) (by omega) (by omega)).1
 rw [Int.toNat_natCast] at e1
 rw [e1]
 unfold rdOf
 rw [List.getD_eq_getElem?_getD, Int.toNat_natCast, hj]
 rfl
set_option maxHeartbeats 8000000 in
set_option maxRecDepth 100000 in
theorem impl_parseTime.calls (k : Nat) (a0 : ByteArray) (r1 : Int) (r2 : Int) (r3 : Int) (r4 : Bool) (w : World) (h : impl_parseTime.f k a0 = some (r1, r2, r3, r4)) :
  Calls Tryd.prog 36 #[.string a0] w fun e w' => e = .returned (.tuple #[.agg #[.int .i64 r1, .int .i64 r2, .int .i64 r3], .bool r4]) ∧ Below w.heap.size w w' := by
 obtain ⟨ps, A20, H⟩ := Option.bind_eq_some_iff.mp h
 clear h
 have A2 := Aside0.mk A20
 clear A20
 obtain ⟨t, A30, H⟩ := Option.bind_eq_some_iff.mp H
 have A3 := Aside0.mk A30
 clear A30
 cases t with
 | false =>
  rw [if_neg (by simp), if_neg (by simp)] at H
  have e := Option.some.inj H
  obtain ⟨rfl, rfl, rfl, rfl⟩ : 0 = r1 ∧ 0 = r2 ∧ 0 = r3 ∧ false = r4 := ⟨congrArg (·.1) e, congrArg (·.2.1) e, congrArg (·.2.2.1) e, congrArg (·.2.2.2) e⟩
  clear H e
  go_enter Tryd.func36, Tryd.ntmps36
  go_wp2_with (first | (go_at_call 30; refine (strings_Split.calls a0 ⟨#[58]⟩ ps _ A2.out).mono ?_; rintro e w1 ⟨v, rfl, ho, hb⟩; obtain ⟨A, c, rfl⟩ := Kd.R_slice ho; have BK := Aside0.mk (blk_below (blk_new w _) hb); have hlt : w.heap.size < w1.heap.size := blk_lt BK.out; have c0 : w1.cell? ⟨w.heap.size, 0, none⟩ = some (.int .i64 0) := (Ba BK.out 0).trans rfl; have c1 : w1.cell? ⟨w.heap.size, 1, none⟩ = some (.int .i64 0) := (Ba BK.out 1).trans rfl; have c2 : w1.cell? ⟨w.heap.size, 2, none⟩ = some (.int .i64 0) := (Ba BK.out 2).trans rfl; have f0 := Bb BK.out 0; have f1 := Bb BK.out 1; have f2 := Bb BK.out 2; have HB := Aside0.mk (((Below.refl _ w).alloc (Nat.le_refl _) _).trans (hb.mono (by simp))); clear ho hb) | (go_at_call 48; refine (impl_between.calls _ 2 3 false _ A3.out).mono ?_; rintro e w2 ⟨rfl, ⟨nd, rfl⟩⟩))
  refine bodyPost_ret (results_ct rfl _ _ w.heap.size 52 #[.int .i64 0, .int .i64 0, .int .i64 0] (0, 0) _ rfl (blk_put (cs := #[.int .i64 0, .int .i64 0, .int .i64 0]) (blk_put (cs := #[.int .i64 0, .int .i64 0, .int .i64 0]) (blk_put (cs := #[.int .i64 0, .int .i64 0, .int .i64 0]) (Bf (Bg BK.out _) _) 0 _ rfl) 1 _ rfl) 2 _ rfl) Tryd.underlying52 rfl (by kernel_rfl)) rfl ?_
  exact ⟨rfl, (((Bc (HB.out.alloc (Nat.le_of_lt hlt) _) _).setCell (Nat.le_refl _) _).setCell (Nat.le_refl _) _).setCell (Nat.le_refl _) _⟩
 | true =>
  by_cases hl : 2 ≤ ps.length ∧ ps.length ≤ 3
  ·rw [if_pos ⟨rfl, hl⟩] at H
   have HG := Aside0.mk H; clear H
   go_enter Tryd.func36, Tryd.ntmps36
   go_wp2_with (first | (go_at_call 30; refine (strings_Split.calls a0 ⟨#[58]⟩ ps _ A2.out).mono ?_; rintro e w1 ⟨v, rfl, ho, hb⟩; obtain ⟨g, c, rfl, hg0, hg1, hcw⟩ := impl_parseTime.row ho (by omega); have BK := Aside0.mk (blk_below (blk_new w _) hb); have hlt : w.heap.size < w1.heap.size := blk_lt BK.out; have CW := Aside0.mk hcw; have HB := Aside0.mk (((Below.refl _ w).alloc (Nat.le_refl _) _).trans (hb.mono (by simp))); have hg2 : w.heap.size < g := Nat.lt_of_lt_of_le (by simp) hg0; clear ho hb hg0 hcw) | (go_at_call 48; refine (impl_between.calls _ 2 3 true _ A3.out).mono ?_; rintro e w2 ⟨rfl, ⟨nd, rfl⟩⟩))
   go_loopg [20] ps.length (fun gg v20 wr => ∃ (i : Nat) (a b c : Int), v20 = .int .i64 i ∧ i ≤ ps.length ∧ ps.length - i ≤ gg ∧ Aside0 (impl_parseTime.go k (ps.drop i) i a b c = some (r1, r2, r3, r4)) ∧ Aside0 (wr.heap[w.heap.size]? = some (.cells #[.int .i64 0, .int .i64 0, .int .i64 0] 52 (0, 0))) ∧ Aside0 (wr.heap[w1.heap.size]? = some (.cells #[.int .i64 a, .int .i64 b, .int .i64 c] 52 (0, 0))) ∧ Aside0 (∀ (j : Nat) p, ps[j]? = some p → wr.cell? ⟨g, j, none⟩ = some (.string p)) ∧ Aside0 (Below w.heap.size w wr))
   case atStart => exact ⟨0, 0, 0, 0, by first | rfl | (simp; done), by omega, by omega, HG, ⟨Bf (Bg BK.out _) _⟩, ⟨Bf (blk_new _ _) _⟩, ⟨fun j p hj => (World.cell?_alloc_past _ _ _ hg1).trans (CW.out j p hj)⟩, ⟨Bc (HB.out.alloc (Nat.le_of_lt hlt) _) _⟩⟩
   case round =>
    clear HG BK CW HB
    obtain ⟨i, a, b, c', rfl, hi, hgk, RG, R2, R4, RW, RB⟩ := hrel
    have c20 : wr.cell? ⟨w.heap.size, 0, none⟩ = some (.int .i64 0) := (Ba R2.out 0).trans rfl
    have c21 : wr.cell? ⟨w.heap.size, 1, none⟩ = some (.int .i64 0) := (Ba R2.out 1).trans rfl
    have c22 : wr.cell? ⟨w.heap.size, 2, none⟩ = some (.int .i64 0) := (Ba R2.out 2).trans rfl
    have f20 := Bb R2.out 0; have f21 := Bb R2.out 1; have f22 := Bb R2.out 2
    have c40 : wr.cell? ⟨w1.heap.size, 0, none⟩ = some (.int .i64 a) := (Ba R4.out 0).trans rfl
    have c41 : wr.cell? ⟨w1.heap.size, 1, none⟩ = some (.int .i64 b) := (Ba R4.out 1).trans rfl
    have c42 : wr.cell? ⟨w1.heap.size, 2, none⟩ = some (.int .i64 c') := (Ba R4.out 2).trans rfl
    have f40 := Bb R4.out 0; have f41 := Bb R4.out 1; have f42 := Bb R4.out 2
    by_cases hlt2 : i < ps.length
    ·obtain ⟨p, hp⟩ : ∃ p, ps[i]? = some p := ⟨ps[i], List.getElem?_eq_getElem hlt2⟩
     have hdrop : ps.drop i = p :: ps.drop (i + 1) := by
      rw [List.drop_eq_getElem_cons hlt2]
      rw [List.getElem?_eq_getElem hlt2] at hp
      rw [Option.some.inj hp]
     have H := RG.out
     rw [hdrop] at H
     unfold impl_parseTime.go at H
     obtain ⟨⟨n, ok⟩, D, H⟩ := Option.bind_eq_some_iff.mp H
     have hcw := RW.out i p hp
     have hd : decide ((i : Int) < (ps.length : Int)) = true := decide_eq_true (by omega)
     have hq : (i : Int) < (ps.length : Int) := by omega
     clear hdrop RG; have HD := Aside0.mk D; have HH := Aside0.mk H; clear D H
     cases ok with
     | false =>
      have H := HH.out
      rw [if_neg (by simp)] at H
      have e := Option.some.inj H
      obtain ⟨rfl, rfl, rfl, rfl⟩ : a = r1 ∧ b = r2 ∧ c' = r3 ∧ false = r4 := ⟨congrArg (·.1) e, congrArg (·.2.1) e, congrArg (·.2.2.1) e, congrArg (·.2.2.2) e⟩
      clear H e HH
      go_wp2_with (first | (go_at_call 32; refine (impl_digits.calls k p 2 2 n false _ HD.out).mono ?_; rintro e w3 ⟨rfl, ⟨nd3, rfl⟩⟩))
      refine bodyPost_ret (results_ct rfl _ _ w.heap.size 52 #[.int .i64 a, .int .i64 b, .int .i64 c'] (0, 0) _ rfl (blk_put (cs := #[.int .i64 a, .int .i64 b, .int .i64 0]) (blk_put (cs := #[.int .i64 a, .int .i64 0, .int .i64 0]) (blk_put (cs := #[.int .i64 0, .int .i64 0, .int .i64 0]) (Bf R2.out _) 0 _ rfl) 1 _ rfl) 2 _ rfl) Tryd.underlying52 rfl (by kernel_rfl)) rfl ?_
      exact ⟨rfl, (((Bc RB.out _).setCell (Nat.le_refl _) _).setCell (Nat.le_refl _) _).setCell (Nat.le_refl _) _⟩
     | true =>
      have hcase : i = 0 ∨ i = 1 ∨ i = 2 := by omega
      have H := HH.out
      rw [if_pos rfl] at H
      have HN := Aside0.mk H; clear H HH
      rcases hcase with rfl | rfl | rfl
      ·go_wp2_with (first | (go_at_call 32; refine (impl_digits.calls k p 2 2 n true _ HD.out).mono ?_; rintro e w3 ⟨rfl, ⟨nd3, rfl⟩⟩))
       go_roundg (ps.length - 1)
       case measure => omega
       case rel => exact ⟨1, n, b, c', by first | rfl | (simp; done), by omega, by omega, HN, ⟨blk_far (Bf R2.out _) (Nat.ne_of_lt hlt) _⟩, ⟨blk_put (Bf R4.out _) 0 _ rfl⟩, ⟨fun j p hj => (World.cell?_setCell_far _ _ _ _ (Nat.ne_of_gt hg1)).trans (RW.out j p hj)⟩, ⟨(Bc RB.out _).setCell (Nat.le_of_lt hlt) _⟩⟩
      ·go_wp2_with (first | (go_at_call 32; refine (impl_digits.calls k p 2 2 n true _ HD.out).mono ?_; rintro e w3 ⟨rfl, ⟨nd3, rfl⟩⟩))
       go_roundg (ps.length - 2)
       case measure => omega
       case rel => exact ⟨2, a, n, c', by first | rfl | (simp; done), by omega, by omega, HN, ⟨blk_far (Bf R2.out _) (Nat.ne_of_lt hlt) _⟩, ⟨blk_put (Bf R4.out _) 1 _ rfl⟩, ⟨fun j p hj => (World.cell?_setCell_far _ _ _ _ (Nat.ne_of_gt hg1)).trans (RW.out j p hj)⟩, ⟨(Bc RB.out _).setCell (Nat.le_of_lt hlt) _⟩⟩
      go_wp2_with (first | (go_at_call 32; refine (impl_digits.calls k p 2 2 n true _ HD.out).mono ?_; rintro e w3 ⟨rfl, ⟨nd3, rfl⟩⟩))
      go_roundg (ps.length - 3)
      case measure => omega
      case rel => exact ⟨3, a, b, n, by first | rfl | (simp; done), by omega, by omega, HN, ⟨blk_far (Bf R2.out _) (Nat.ne_of_lt hlt) _⟩, ⟨blk_put (Bf R4.out _) 2 _ rfl⟩, ⟨fun j p hj => (World.cell?_setCell_far _ _ _ _ (Nat.ne_of_gt hg1)).trans (RW.out j p hj)⟩, ⟨(Bc RB.out _).setCell (Nat.le_of_lt hlt) _⟩⟩
    obtain rfl : i = ps.length := by omega
    have H := RG.out
    rw [List.drop_length] at H
    unfold impl_parseTime.go at H
    have e := Option.some.inj H
    obtain ⟨rfl, rfl, rfl, rfl⟩ : a = r1 ∧ b = r2 ∧ c' = r3 ∧ true = r4 := ⟨congrArg (·.1) e, congrArg (·.2.1) e, congrArg (·.2.2.1) e, congrArg (·.2.2.2) e⟩
    have hd : decide ((ps.length : Int) < (ps.length : Int)) = false := decide_eq_false (by omega)
    clear H e RG
    go_wp2
    refine bodyPost_ret (results_ct rfl _ _ w.heap.size 52 #[.int .i64 a, .int .i64 b, .int .i64 c'] (0, 0) _ rfl (blk_put (cs := #[.int .i64 a, .int .i64 b, .int .i64 0]) (blk_put (cs := #[.int .i64 a, .int .i64 0, .int .i64 0]) (blk_put (cs := #[.int .i64 0, .int .i64 0, .int .i64 0]) (R2.out) 0 _ rfl) 1 _ rfl) 2 _ rfl) Tryd.underlying52 rfl (by kernel_rfl)) rfl ?_
    exact ⟨rfl, ((RB.out.setCell (Nat.le_refl _) _).setCell (Nat.le_refl _) _).setCell (Nat.le_refl _) _⟩
  rw [if_neg (fun q => hl q.2), if_pos rfl] at H
  cases H

/-! ### impl_parseZone: function 37 -/
mutual
def impl_parseZone.j0 : Nat → ByteArray → Bool → Option (Int × Bool)
 | 0, _, _ => none
 | k + 1, x0, x14 => if x14 = true then (some (0, true)) else (if (x0.size : Int) = 5 then (if 0 < (x0.size : Int) then (if (bt x0 0) = 43 then (impl_parseZone.j1 k x0 false) else (impl_parseZone.j1 k x0 ((bt x0 0) != 45))) else (none)) else (impl_parseZone.j1 k x0 true))
def impl_parseZone.j1 : Nat → ByteArray → Bool → Option (Int × Bool)
 | 0, _, _ => none
 | k + 1, x0, x27 => if x27 = true then (some (0, false)) else (if 1 ≤ 3 then (if 3 ≤ (x0.size : Int) then ((impl_digits.f k (x0.extract 1 3) 2 2).bind fun bt120 => ((impl_digits.f k (x0.extract 3 x0.size) 2 2).bind fun bt122 => (if 0 < (x0.size : Int) then (if (bt x0 0) = 45 then (if bt120.2 = true then (if bt122.2 = true then (some (wrap64 (-(wrap64 ((wrap64 (60 * bt120.1)) + bt122.1))), decide (bt122.1 ≤ 59))) else (some (wrap64 (-(wrap64 ((wrap64 (60 * bt120.1)) + bt122.1))), false))) else (some (wrap64 (-(wrap64 ((wrap64 (60 * bt120.1)) + bt122.1))), false))) else (if bt120.2 = true then (if bt122.2 = true then (some (wrap64 ((wrap64 (60 * bt120.1)) + bt122.1), decide (bt122.1 ≤ 59))) else (some (wrap64 ((wrap64 (60 * bt120.1)) + bt122.1), false))) else (some (wrap64 ((wrap64 (60 * bt120.1)) + bt122.1), false)))) else (none)))) else (none)) else (none))
end
def impl_parseZone.f (k : Nat) (a0 : ByteArray) : Option (Int × Bool) := if a0.toList = ([71, 77, 84] : List UInt8) then (impl_parseZone.j0 k a0 true) else (impl_parseZone.j0 k a0 (a0.toList == ([85, 84] : List UInt8)))
theorem impl_parseZone.mono_l : ∀ k, (∀ y0 y1, LeO (impl_parseZone.j0 k y0 y1) (impl_parseZone.j0 (k + 1) y0 y1)) ∧ (∀ y0 y1, LeO (impl_parseZone.j1 k y0 y1) (impl_parseZone.j1 (k + 1) y0 y1))
 | 0 => ⟨fun _ _ r h => by simp [impl_parseZone.j0] at h, fun _ _ r h => by simp [impl_parseZone.j1] at h⟩
 | k + 1 => by
  obtain ⟨ih0, ih1⟩ := impl_parseZone.mono_l k
  refine ⟨?_, ?_⟩
  ·intro y0 y1
   unfold impl_parseZone.j0
   repeat' first
   | (with_reducible exact ih0 _ _)
   | (with_reducible exact ih1 _ _)
   | (with_reducible exact impl_digits.mono _ _ _ _)
   | (with_reducible exact LeO.refl _)
   | (with_reducible exact LeO.none _)
   | (with_reducible refine LeO.ite ?_ ?_)
   | (with_reducible refine LeO.bind ?_ (fun _ => ?_))
  intro y0 y1
  unfold impl_parseZone.j1
  repeat' first
  | (with_reducible exact ih0 _ _)
  | (with_reducible exact ih1 _ _)
  | (with_reducible exact impl_digits.mono _ _ _ _)
  | (with_reducible exact LeO.refl _)
  | (with_reducible exact LeO.none _)
  | (with_reducible refine LeO.ite ?_ ?_)
  | (with_reducible refine LeO.bind ?_ (fun _ => ?_))
theorem impl_parseZone.mono : ∀ a0 k, LeO (impl_parseZone.f k a0) (impl_parseZone.f (k + 1) a0) := by
 intro a0 k
 obtain ⟨ih0, ih1⟩ := impl_parseZone.mono_l k
 unfold impl_parseZone.f
 repeat' first
   | (with_reducible exact ih0 _ _)
   | (with_reducible exact ih1 _ _)
   | (with_reducible exact impl_digits.mono _ _ _ _)
   | (with_reducible exact LeO.refl _)
   | (with_reducible exact LeO.none _)
   | (with_reducible refine LeO.ite ?_ ?_)
   | (with_reducible refine LeO.bind ?_ (fun _ => ?_))
set_option maxHeartbeats 8000000 in
set_option maxRecDepth 100000 in
theorem impl_parseZone.calls (k : Nat) (a0 : ByteArray) (r1 : Int) (r2 : Bool) (w : World) (h : impl_parseZone.f k a0 = some (r1, r2)) :
  Calls Tryd.prog 37 #[.string a0] w fun e w' => e = .returned (.tuple #[.int .i64 r1, .bool r2]) ∧ Drawn0 w w' := by
 have H : (if a0.toList = ([71, 77, 84] : List UInt8) then (impl_parseZone.j0 k a0 true) else (impl_parseZone.j0 k a0 (a0.toList == ([85, 84] : List UInt8)))) = some (r1, r2) := h
 clear h
 have HC2 := Aside0.mk H
 clear H
 go_enter Tryd.func37, Tryd.ntmps37
 go_upto_region 1 with (fail)
 go_cut [14] (fun v14 wc => ∃ (kq : Nat) (x14_1 : Bool), v14 = .bool x14_1 ∧ Aside0 (impl_parseZone.j0 kq a0 x14_1 = some (r1, r2)) ∧ Aside0 (kq ≤ k) ∧ Drawn0 w wc)
 case first =>
  have H := HC2.out
  clear HC2
  by_cases c3 : a0.toList = ([71, 77, 84] : List UInt8)
  ·rw [if_pos c3] at H
   have c3b0 : (a0.toList == ([71, 77, 84] : List UInt8)) = true := beq_iff_eq.mpr c3
   have c3b1 : (a0.toList != ([71, 77, 84] : List UInt8)) = false := bne_eq_false_iff_eq.mpr c3
   clear c3
   (first | rw [c3b0] | (simp only [i64_w, i32_w]; rw [c3b0]) | skip)
   have H' := Aside0.mk H
   clear H
   go_wp2
   go_meet
   case rel => exact ⟨_, (true), (by first | rfl | (simp; done) | (simp [*]; done)), H', ⟨by first | omega | exact Nat.le_refl _⟩, by repeat (first | exact Drawn0.refl _ | apply Drawn0.step)⟩
  rw [if_neg c3] at H
  have c3b0 : (a0.toList == ([71, 77, 84] : List UInt8)) = false := beq_eq_false_iff_ne.mpr c3
  have c3b1 : (a0.toList != ([71, 77, 84] : List UInt8)) = true := bne_iff_ne.mpr c3
  (first | rw [c3b0] | (simp only [i64_w, i32_w]; rw [c3b0]) | skip)
  have H' := Aside0.mk H
  clear H
  go_wp2
  go_meet
  case rel => exact ⟨_, ((a0.toList == ([85, 84] : List UInt8))), (by first | rfl | (simp; done) | (simp [*]; done)), H', ⟨by first | omega | exact Nat.le_refl _⟩, by repeat (first | exact Drawn0.refl _ | apply Drawn0.step)⟩
 case rest =>
  clear HC2
  try clear p2
  try clear c3
  try clear c3b0
  try clear c3b1
  obtain ⟨kq, x14_1, rfl, HA, HJ1, ⟨mc1, rfl⟩⟩ := hcut
  cases kq with
  | zero => exact absurd HA.out (by simp [impl_parseZone.j0])
  | succ kj1 =>
   have H := HA.out; clear HA
   simp only [impl_parseZone.j0] at H
   by_cases c4 : x14_1 = true
   ·subst c4
    have H1 : (some (0, true)) = some (r1, r2) := by rw [if_pos rfl] at H; exact H
    clear H; have H := H1; clear H1
    simp only [Option.some.injEq, Prod.mk.injEq] at H
    obtain ⟨rfl, rfl⟩ := H
    go_wp2
    go_ret2
    exact ⟨by first | rfl | (simp; done) | (simp [*]; done), by repeat (first | exact Drawn0.refl _ | apply Drawn0.step)⟩
   replace c4 := Bool.eq_false_iff.mpr c4
   subst c4
   have H1 : (if (a0.size : Int) = 5 then (if 0 < (a0.size : Int) then (if (bt a0 0) = 43 then (impl_parseZone.j1 kj1 a0 false) else (impl_parseZone.j1 kj1 a0 ((bt a0 0) != 45))) else (none)) else (impl_parseZone.j1 kj1 a0 true)) = some (r1, r2) := by rw [if_neg (show ¬ (false = true) by decide)] at H; exact H
   clear H; have H := H1; clear H1; have HC5 := Aside0.mk H; clear H
   go_upto_region 3 with (fail)
   go_cut [27] (fun v27 wc => ∃ (kq : Nat) (x27_4 : Bool), v27 = .bool x27_4 ∧ Aside0 (impl_parseZone.j1 kq a0 x27_4 = some (r1, r2)) ∧ Aside0 (kq ≤ kj1) ∧ Drawn0 w wc)
   case first =>
    have H := HC5.out; clear HC5
    by_cases c6 : (a0.size : Int) = 5
    ·rw [if_pos c6] at H
     have c6b0 : ((a0.size : Int) == 5) = true := beq_iff_eq.mpr c6
     have c6b1 : ((a0.size : Int) != 5) = false := bne_eq_false_iff_eq.mpr c6
     clear c6
     (first | rw [c6b0] | (simp only [i64_w, i32_w]; rw [c6b0]) | skip)
     by_cases c7 : 0 < (a0.size : Int)
     ·rw [if_pos c7] at H
      have c7b0 : decide (0 < (a0.size : Int)) = true := decide_eq_true c7
      have c7b1 : decide (0 < a0.size) = true := decide_eq_true (by omega)
      clear c7
      by_cases c9 : (bt a0 0) = 43
      ·rw [if_pos c9] at H
       have c9b0 : ((bt a0 0) == 43) = true := beq_iff_eq.mpr c9
       have c9b1 : ((bt a0 0) != 43) = false := bne_eq_false_iff_eq.mpr c9
       clear c9
       have H' := Aside0.mk H
       clear H
       have p8 : 0 ≤ (0 : Int) := (by omega)
       have q8 : 0 < a0.size := (by have : (0 : Int) < (a0.size : Int) := of_decide_eq_true (by first | (with_reducible assumption) | assumption); omega)
       have hx8 : ∀ h : 0 < a0.size, ((a0[0]'h).toNat : Int) = bt a0 0 := bt_at a0 0
       clear p8
       have qi8 : (0 < (a0.size : Int)) = True := eq_true (of_decide_eq_true (by first | (with_reducible assumption) | assumption))
       replace q8 := eq_true q8
       go_wp2
       go_meet
       case rel => exact ⟨_, (false), (by first | rfl | (simp; done) | (simp [*]; done)), H', ⟨by have := HJ1.out; first | omega | exact Nat.le_refl _⟩, by repeat (first | exact Drawn0.refl _ | apply Drawn0.step)⟩
      rw [if_neg c9] at H
      have c9b0 : ((bt a0 0) == 43) = false := beq_eq_false_iff_ne.mpr c9
      have c9b1 : ((bt a0 0) != 43) = true := bne_iff_ne.mpr c9
      have H' := Aside0.mk H
      clear H
      have p8 : 0 ≤ (0 : Int) := (by omega)
      have q8 : 0 < a0.size := (by have : (0 : Int) < (a0.size : Int) := of_decide_eq_true (by first | (with_reducible assumption) | assumption); omega)
      have hx8 : ∀ h : 0 < a0.size, ((a0[0]'h).toNat : Int) = bt a0 0 := bt_at a0 0
      clear p8
      have qi8 : (0 < (a0.size : Int)) = True := eq_true (of_decide_eq_true (by first | (with_reducible assumption) | assumption))
      replace q8 := eq_true q8
      have p10 : 0 ≤ (0 : Int) := (by omega)
      have q10 : 0 < a0.size := (by have : (0 : Int) < (a0.size : Int) := of_decide_eq_true (by first | (with_reducible assumption) | assumption); omega)
      have hx10 : ∀ h : 0 < a0.size, ((a0[0]'h).toNat : Int) = bt a0 0 := bt_at a0 0
      clear p10
      have qi10 : (0 < (a0.size : Int)) = True := eq_true (of_decide_eq_true (by first | (with_reducible assumption) | assumption))
      replace q10 := eq_true q10
      go_wp2
      go_meet
      case rel => exact ⟨_, (((bt a0 0) != 45)), (by first | rfl | (simp; done) | (simp [*]; done)), H', ⟨by have := HJ1.out; first | omega | exact Nat.le_refl _⟩, by repeat (first | exact Drawn0.refl _ | apply Drawn0.step)⟩
     rw [if_neg c7] at H
     exact absurd H (by simp)
    rw [if_neg c6] at H
    have c6b0 : ((a0.size : Int) == 5) = false := beq_eq_false_iff_ne.mpr c6
    have c6b1 : ((a0.size : Int) != 5) = true := bne_iff_ne.mpr c6
    (first | rw [c6b0] | (simp only [i64_w, i32_w]; rw [c6b0]) | skip)
    have H' := Aside0.mk H
    clear H
    go_wp2
    go_meet
    case rel => exact ⟨_, (true), (by first | rfl | (simp; done) | (simp [*]; done)), H', ⟨by have := HJ1.out; first | omega | exact Nat.le_refl _⟩, by repeat (first | exact Drawn0.refl _ | apply Drawn0.step)⟩
   case rest =>
    clear HC5
    try clear c1
    try clear p1
    try clear q1
    try clear hx1
    try clear qi1
    try clear p2
    try clear c3
    try clear c3b0
    try clear c3b1
    try clear c4
    try clear c6
    try clear c6b0
    try clear c6b1
    try clear c7
    try clear c7b0
    try clear c7b1
    try clear p8
    try clear q8
    try clear hx8
    try clear qi8
    try clear c9
    try clear c9b0
    try clear c9b1
    try clear p10
    try clear q10
    try clear hx10
    try clear qi10
    try clear p10
    try clear p2
    try clear p8
    try clear q10
    try clear q8
    obtain ⟨kq, x27_4, rfl, HA, HJ4, ⟨mc4, rfl⟩⟩ := hcut
    cases kq with
    | zero => exact absurd HA.out (by simp [impl_parseZone.j1])
    | succ kj4 =>
     have H := HA.out; clear HA
     simp only [impl_parseZone.j1] at H
     by_cases c11 : x27_4 = true
     ·subst c11
      have H1 : (some (0, false)) = some (r1, r2) := by rw [if_pos rfl] at H; exact H
      clear H; have H := H1; clear H1
      simp only [Option.some.injEq, Prod.mk.injEq] at H
      obtain ⟨rfl, rfl⟩ := H
      go_wp2
      go_ret2
      exact ⟨by first | rfl | (simp; done) | (simp [*]; done), by repeat (first | exact Drawn0.refl _ | apply Drawn0.step)⟩
     replace c11 := Bool.eq_false_iff.mpr c11
     subst c11
     have H1 : (if 1 ≤ 3 then (if 3 ≤ (a0.size : Int) then ((impl_digits.f kj4 (a0.extract 1 3) 2 2).bind fun bt120 => ((impl_digits.f kj4 (a0.extract 3 a0.size) 2 2).bind fun bt122 => (if 0 < (a0.size : Int) then (if (bt a0 0) = 45 then (if bt120.2 = true then (if bt122.2 = true then (some (wrap64 (-(wrap64 ((wrap64 (60 * bt120.1)) + bt122.1))), decide (bt122.1 ≤ 59))) else (some (wrap64 (-(wrap64 ((wrap64 (60 * bt120.1)) + bt122.1))), false))) else (some (wrap64 (-(wrap64 ((wrap64 (60 * bt120.1)) + bt122.1))), false))) else (if bt120.2 = true then (if bt122.2 = true then (some (wrap64 ((wrap64 (60 * bt120.1)) + bt122.1), decide (bt122.1 ≤ 59))) else (some (wrap64 ((wrap64 (60 * bt120.1)) + bt122.1), false))) else (some (wrap64 ((wrap64 (60 * bt120.1)) + bt122.1), false)))) else (none)))) else (none)) else (none)) = some (r1, r2) := by rw [if_neg (show ¬ (false = true) by decide)] at H; exact H
     clear H; have H := H1; clear H1
     by_cases c12 : 1 ≤ 3
     ·rw [if_pos c12] at H
      have c12b0 := eq_true c12
      have c12b1 : decide (1 ≤ 3) = true := decide_eq_true c12
      clear c12
      by_cases c13 : 3 ≤ (a0.size : Int)
      ·rw [if_pos c13] at H
       have c13b0 := eq_true c13
       have c13b1 : decide (3 ≤ (a0.size : Int)) = true := decide_eq_true c13
       clear c13; replace H := Option.bind_eq_some_iff.mp H
       obtain ⟨⟨t120, t121⟩, A140, H⟩ := H
       replace H : ((impl_digits.f kj4 (a0.extract 3 a0.size) 2 2).bind fun bt122 => (if 0 < (a0.size : Int) then (if (bt a0 0) = 45 then (if t121 = true then (if bt122.2 = true then (some (wrap64 (-(wrap64 ((wrap64 (60 * t120)) + bt122.1))), decide (bt122.1 ≤ 59))) else (some (wrap64 (-(wrap64 ((wrap64 (60 * t120)) + bt122.1))), false))) else (some (wrap64 (-(wrap64 ((wrap64 (60 * t120)) + bt122.1))), false))) else (if t121 = true then (if bt122.2 = true then (some (wrap64 ((wrap64 (60 * t120)) + bt122.1), decide (bt122.1 ≤ 59))) else (some (wrap64 ((wrap64 (60 * t120)) + bt122.1), false))) else (some (wrap64 ((wrap64 (60 * t120)) + bt122.1), false)))) else (none))) = some (r1, r2) := H
       have A14 := Aside0.mk A140; clear A140; have c15b0 := eq_true (of_decide_eq_true (by first | (with_reducible assumption) | assumption) : 3 ≤ (a0.size : Int)); replace H := Option.bind_eq_some_iff.mp H
       obtain ⟨⟨t122, t123⟩, A160, H⟩ := H
       replace H : (if 0 < (a0.size : Int) then (if (bt a0 0) = 45 then (if t121 = true then (if t123 = true then (some (wrap64 (-(wrap64 ((wrap64 (60 * t120)) + t122))), decide (t122 ≤ 59))) else (some (wrap64 (-(wrap64 ((wrap64 (60 * t120)) + t122))), false))) else (some (wrap64 (-(wrap64 ((wrap64 (60 * t120)) + t122))), false))) else (if t121 = true then (if t123 = true then (some (wrap64 ((wrap64 (60 * t120)) + t122), decide (t122 ≤ 59))) else (some (wrap64 ((wrap64 (60 * t120)) + t122), false))) else (some (wrap64 ((wrap64 (60 * t120)) + t122), false)))) else (none)) = some (r1, r2) := H
       have A16 := Aside0.mk A160; clear A160
       by_cases c17 : 0 < (a0.size : Int)
       ·rw [if_pos c17] at H
        have c17b0 : decide (0 < (a0.size : Int)) = true := decide_eq_true c17
        have c17b1 : decide (0 < a0.size) = true := decide_eq_true (by omega)
        clear c17
        by_cases c19 : (bt a0 0) = 45
        ·rw [if_pos c19] at H
         have c19b0 : ((bt a0 0) == 45) = true := beq_iff_eq.mpr c19
         have c19b1 : ((bt a0 0) != 45) = false := bne_eq_false_iff_eq.mpr c19
         clear c19
         by_cases c20 : t121 = true
         ·subst c20
          have H1 : (if t123 = true then (some (wrap64 (-(wrap64 ((wrap64 (60 * t120)) + t122))), decide (t122 ≤ 59))) else (some (wrap64 (-(wrap64 ((wrap64 (60 * t120)) + t122))), false))) = some (r1, r2) := by rw [if_pos rfl] at H; exact H
          clear H; have H := H1; clear H1
          by_cases c21 : t123 = true
          ·subst c21
           have H1 : (some (wrap64 (-(wrap64 ((wrap64 (60 * t120)) + t122))), decide (t122 ≤ 59))) = some (r1, r2) := by rw [if_pos rfl] at H; exact H
           clear H; have H := H1; clear H1
           simp only [Option.some.injEq, Prod.mk.injEq] at H
           obtain ⟨rfl, rfl⟩ := H
           go_wp2_with (first | ((with_reducible refine gate_callee (f := 32) rfl ?_); refine goesL_ (some 31) rfl rfl Tryd.func32 (by kernel_rfl) rfl #[.string (a0.extract 1 3), .int .i64 2, .int .i64 2] rfl (by (try simp only [List.map_toArray, List.map_cons, List.map_nil]); first | done | rfl | (simp only [List.length_drop, List.length_take]; rfl)) ?_; (with_reducible refine (impl_digits.calls kj4 (a0.extract 1 3) 2 2 t120 true _ A14.out).mono ?_); rintro e w' ⟨rfl, ⟨nd, rfl⟩⟩; refine ⟨_, rfl, ?_⟩) | ((with_reducible refine gate_callee (f := 32) rfl ?_); refine goesL_ (some 37) rfl rfl Tryd.func32 (by kernel_rfl) rfl #[.string (a0.extract 3 a0.size), .int .i64 2, .int .i64 2] rfl (by (try simp only [List.map_toArray, List.map_cons, List.map_nil]); first | done | rfl | (simp only [List.length_drop, List.length_take]; rfl)) ?_; (with_reducible refine (impl_digits.calls kj4 (a0.extract 3 a0.size) 2 2 t122 true _ A16.out).mono ?_); rintro e w' ⟨rfl, ⟨nd, rfl⟩⟩; refine ⟨_, rfl, ?_⟩; have p18 : 0 ≤ (0 : Int) := (by omega); have q18 : 0 < a0.size := (by have : (0 : Int) < (a0.size : Int) := of_decide_eq_true (by first | (with_reducible assumption) | assumption); omega); have hx18 : ∀ h : 0 < a0.size, ((a0[0]'h).toNat : Int) = bt a0 0 := bt_at a0 0; clear p18; have qi18 : (0 < (a0.size : Int)) = True := eq_true (of_decide_eq_true (by first | (with_reducible assumption) | assumption)); replace q18 := eq_true q18))
           go_ret2
           exact ⟨by first | rfl | (simp; done) | (simp [*]; done), by repeat (first | exact Drawn0.refl _ | apply Drawn0.step)⟩
          replace c21 := Bool.eq_false_iff.mpr c21
          subst c21
          have H1 : (some (wrap64 (-(wrap64 ((wrap64 (60 * t120)) + t122))), false)) = some (r1, r2) := by rw [if_neg (show ¬ (false = true) by decide)] at H; exact H
          clear H; have H := H1; clear H1
          simp only [Option.some.injEq, Prod.mk.injEq] at H
          obtain ⟨rfl, rfl⟩ := H
          go_wp2_with (first | ((with_reducible refine gate_callee (f := 32) rfl ?_); refine goesL_ (some 31) rfl rfl Tryd.func32 (by kernel_rfl) rfl #[.string (a0.extract 1 3), .int .i64 2, .int .i64 2] rfl (by (try simp only [List.map_toArray, List.map_cons, List.map_nil]); first | done | rfl | (simp only [List.length_drop, List.length_take]; rfl)) ?_; (with_reducible refine (impl_digits.calls kj4 (a0.extract 1 3) 2 2 t120 true _ A14.out).mono ?_); rintro e w' ⟨rfl, ⟨nd, rfl⟩⟩; refine ⟨_, rfl, ?_⟩) | ((with_reducible refine gate_callee (f := 32) rfl ?_); refine goesL_ (some 37) rfl rfl Tryd.func32 (by kernel_rfl) rfl #[.string (a0.extract 3 a0.size), .int .i64 2, .int .i64 2] rfl (by (try simp only [List.map_toArray, List.map_cons, List.map_nil]); first | done | rfl | (simp only [List.length_drop, List.length_take]; rfl)) ?_; (with_reducible refine (impl_digits.calls kj4 (a0.extract 3 a0.size) 2 2 t122 false _ A16.out).mono ?_); rintro e w' ⟨rfl, ⟨nd, rfl⟩⟩; refine ⟨_, rfl, ?_⟩; have p18 : 0 ≤ (0 : Int) := (by omega); have q18 : 0 < a0.size := (by have : (0 : Int) < (a0.size : Int) := of_decide_eq_true (by first | (with_reducible assumption) | assumption); omega); have hx18 : ∀ h : 0 < a0.size, ((a0[0]'h).toNat : Int) = bt a0 0 := bt_at a0 0; clear p18; have qi18 : (0 < (a0.size : Int)) = True := eq_true (of_decide_eq_true (by first | (with_reducible assumption) | assumption)); replace q18 := eq_true q18))
          go_ret2
          exact ⟨by first | rfl | (simp; done) | (simp [*]; done), by repeat (first | exact Drawn0.refl _ | apply Drawn0.step)⟩
         replace c20 := Bool.eq_false_iff.mpr c20
         subst c20
         have H1 : (some (wrap64 (-(wrap64 ((wrap64 (60 * t120)) + t122))), false)) = some (r1, r2) := by rw [if_neg (show ¬ (false = true) by decide)] at H; exact H
         clear H; have H := H1; clear H1
         simp only [Option.some.injEq, Prod.mk.injEq] at H
         obtain ⟨rfl, rfl⟩ := H
         go_wp2_with (first | ((with_reducible refine gate_callee (f := 32) rfl ?_); refine goesL_ (some 31) rfl rfl Tryd.func32 (by kernel_rfl) rfl #[.string (a0.extract 1 3), .int .i64 2, .int .i64 2] rfl (by (try simp only [List.map_toArray, List.map_cons, List.map_nil]); first | done | rfl | (simp only [List.length_drop, List.length_take]; rfl)) ?_; (with_reducible refine (impl_digits.calls kj4 (a0.extract 1 3) 2 2 t120 false _ A14.out).mono ?_); rintro e w' ⟨rfl, ⟨nd, rfl⟩⟩; refine ⟨_, rfl, ?_⟩) | ((with_reducible refine gate_callee (f := 32) rfl ?_); refine goesL_ (some 37) rfl rfl Tryd.func32 (by kernel_rfl) rfl #[.string (a0.extract 3 a0.size), .int .i64 2, .int .i64 2] rfl (by (try simp only [List.map_toArray, List.map_cons, List.map_nil]); first | done | rfl | (simp only [List.length_drop, List.length_take]; rfl)) ?_; (with_reducible refine (impl_digits.calls kj4 (a0.extract 3 a0.size) 2 2 t122 t123 _ A16.out).mono ?_); rintro e w' ⟨rfl, ⟨nd, rfl⟩⟩; refine ⟨_, rfl, ?_⟩; have p18 : 0 ≤ (0 : Int) := (by omega); have q18 : 0 < a0.size := (by have : (0 : Int) < (a0.size : Int) := of_decide_eq_true (by first | (with_reducible assumption) | assumption); omega); have hx18 : ∀ h : 0 < a0.size, ((a0[0]'h).toNat : Int) = bt a0 0 := bt_at a0 0; clear p18; have qi18 : (0 < (a0.size : Int)) = True := eq_true (of_decide_eq_true (by first | (with_reducible assumption) | assumption)); replace q18 := eq_true q18))
         go_ret2
         exact ⟨by first | rfl | (simp; done) | (simp [*]; done), by repeat (first | exact Drawn0.refl _ | apply Drawn0.step)⟩
        rw [if_neg c19] at H
        have c19b0 : ((bt a0 0) == 45) = false := beq_eq_false_iff_ne.mpr c19
        have c19b1 : ((bt a0 0) != 45) = true := bne_iff_ne.mpr c19
        by_cases c22 : t121 = true
        ·subst c22
         have H1 : (if t123 = true then (some (wrap64 ((wrap64 (60 * t120)) + t122), decide (t122 ≤ 59))) else (some (wrap64 ((wrap64 (60 * t120)) + t122), false))) = some (r1, r2) := by rw [if_pos rfl] at H; exact H
         clear H; have H := H1; clear H1
         by_cases c23 : t123 = true
         ·subst c23
          have H1 : (some (wrap64 ((wrap64 (60 * t120)) + t122), decide (t122 ≤ 59))) = some (r1, r2) := by rw [if_pos rfl] at H; exact H
          clear H; have H := H1; clear H1
          simp only [Option.some.injEq, Prod.mk.injEq] at H
          obtain ⟨rfl, rfl⟩ := H
          go_wp2_with (first | ((with_reducible refine gate_callee (f := 32) rfl ?_); refine goesL_ (some 31) rfl rfl Tryd.func32 (by kernel_rfl) rfl #[.string (a0.extract 1 3), .int .i64 2, .int .i64 2] rfl (by (try simp only [List.map_toArray, List.map_cons, List.map_nil]); first | done | rfl | (simp only [List.length_drop, List.length_take]; rfl)) ?_; (with_reducible refine (impl_digits.calls kj4 (a0.extract 1 3) 2 2 t120 true _ A14.out).mono ?_); rintro e w' ⟨rfl, ⟨nd, rfl⟩⟩; refine ⟨_, rfl, ?_⟩) | ((with_reducible refine gate_callee (f := 32) rfl ?_); refine goesL_ (some 37) rfl rfl Tryd.func32 (by kernel_rfl) rfl #[.string (a0.extract 3 a0.size), .int .i64 2, .int .i64 2] rfl (by (try simp only [List.map_toArray, List.map_cons, List.map_nil]); first | done | rfl | (simp only [List.length_drop, List.length_take]; rfl)) ?_; (with_reducible refine (impl_digits.calls kj4 (a0.extract 3 a0.size) 2 2 t122 true _ A16.out).mono ?_); rintro e w' ⟨rfl, ⟨nd, rfl⟩⟩; refine ⟨_, rfl, ?_⟩; have p18 : 0 ≤ (0 : Int) := (by omega); have q18 : 0 < a0.size := (by have : (0 : Int) < (a0.size : Int) := of_decide_eq_true (by first | (with_reducible assumption) | assumption); omega); have hx18 : ∀ h : 0 < a0.size, ((a0[0]'h).toNat : Int) = bt a0 0 := bt_at a0 0; clear p18; have qi18 : (0 < (a0.size : Int)) = True := eq_true (of_decide_eq_true (by first | (with_reducible assumption) | assumption)); replace q18 := eq_true q18))
          go_ret2
          exact ⟨by first | rfl | (simp; done) | (simp [*]; done), by repeat (first | exact Drawn0.refl _ | apply Drawn0.step)⟩
         replace c23 := Bool.eq_false_iff.mpr c23
         subst c23
         have H1 : (some (wrap64 ((wrap64 (60 * t120)) + t122), false)) = some (r1, r2) := by rw [if_neg (show ¬ (false = true) by decide)] at H; exact H
         clear H; have H := H1; clear H1
         simp only [Option.some.injEq, Prod.mk.injEq] at H
         obtain ⟨rfl, rfl⟩ := H
         go_wp2_with (first | ((with_reducible refine gate_callee (f := 32) rfl ?_); refine goesL_ (some 31) rfl rfl Tryd.func32 (by kernel_rfl) rfl #[.string (a0.extract 1 3), .int .i64 2, .int .i64 2] rfl (by (try simp only [List.map_toArray, List.map_cons, List.map_nil]); first | done | rfl | (simp only [List.length_drop, List.length_take]; rfl)) ?_; (with_reducible refine (impl_digits.calls kj4 (a0.extract 1 3) 2 2 t120 true _ A14.out).mono ?_); rintro e w' ⟨rfl, ⟨nd, rfl⟩⟩; refine ⟨_, rfl, ?_⟩) | ((with_reducible refine gate_callee (f := 32) rfl ?_); refine goesL_ (some 37) rfl rfl Tryd.func32 (by kernel_rfl) rfl #[.string (a0.extract 3 a0.size), .int .i64 2, .int .i64 2] rfl (by (try simp only [List.map_toArray, List.map_cons, List.map_nil]); first | done | rfl | (simp only [List.length_drop, List.length_take]; rfl)) ?_; (with_reducible refine (impl_digits.calls kj4 (a0.extract 3 a0.size) 2 2 t122 false _ A16.out).mono ?_); rintro e w' ⟨rfl, ⟨nd, rfl⟩⟩; refine ⟨_, rfl, ?_⟩; have p18 : 0 ≤ (0 : Int) := (by omega); have q18 : 0 < a0.size := (by have : (0 : Int) < (a0.size : Int) := of_decide_eq_true (by first | (with_reducible assumption) | assumption); omega); have hx18 : ∀ h : 0 < a0.size, ((a0[0]'h).toNat : Int) = bt a0 0 := bt_at a0 0; clear p18; have qi18 : (0 < (a0.size : Int)) = True := eq_true (of_decide_eq_true (by first | (with_reducible assumption) | assumption)); replace q18 := eq_true q18))
         go_ret2
         exact ⟨by first | rfl | (simp; done) | (simp [*]; done), by repeat (first | exact Drawn0.refl _ | apply Drawn0.step)⟩
        replace c22 := Bool.eq_false_iff.mpr c22
        subst c22
        have H1 : (some (wrap64 ((wrap64 (60 * t120)) + t122), false)) = some (r1, r2) := by rw [if_neg (show ¬ (false = true) by decide)] at H; exact H
        clear H; have H := H1; clear H1
        simp only [Option.some.injEq, Prod.mk.injEq] at H
        obtain ⟨rfl, rfl⟩ := H
        go_wp2_with (first | ((with_reducible refine gate_callee (f := 32) rfl ?_); refine goesL_ (some 31) rfl rfl Tryd.func32 (by kernel_rfl) rfl #[.string (a0.extract 1 3), .int .i64 2, .int .i64 2] rfl (by (try simp only [List.map_toArray, List.map_cons, List.map_nil]); first | done | rfl | (simp only [List.length_drop, List.length_take]; rfl)) ?_; (with_reducible refine (impl_digits.calls kj4 (a0.extract 1 3) 2 2 t120 false _ A14.out).mono ?_); rintro e w' ⟨rfl, ⟨nd, rfl⟩⟩; refine ⟨_, rfl, ?_⟩) | ((with_reducible refine gate_callee (f := 32) rfl ?_); refine goesL_ (some 37) rfl rfl Tryd.func32 (by kernel_rfl) rfl #[.string (a0.extract 3 a0.size), .int .i64 2, .int .i64 2] rfl (by (try simp only [List.map_toArray, List.map_cons, List.map_nil]); first | done | rfl | (simp only [List.length_drop, List.length_take]; rfl)) ?_; (with_reducible refine (impl_digits.calls kj4 (a0.extract 3 a0.size) 2 2 t122 t123 _ A16.out).mono ?_); rintro e w' ⟨rfl, ⟨nd, rfl⟩⟩; refine ⟨_, rfl, ?_⟩; have p18 : 0 ≤ (0 : Int) := (by omega); have q18 : 0 < a0.size := (by have : (0 : Int) < (a0.size : Int) := of_decide_eq_true (by first | (with_reducible assumption) | assumption); omega); have hx18 : ∀ h : 0 < a0.size, ((a0[0]'h).toNat : Int) = bt a0 0 := bt_at a0 0; clear p18; have qi18 : (0 < (a0.size : Int)) = True := eq_true (of_decide_eq_true (by first | (with_reducible assumption) | assumption)); replace q18 := eq_true q18))
        go_ret2
        exact ⟨by first | rfl | (simp; done) | (simp [*]; done), by repeat (first | exact Drawn0.refl _ | apply Drawn0.step)⟩
       rw [if_neg c17] at H
       exact absurd H (by simp)
      rw [if_neg c13] at H
      exact absurd H (by simp)
     rw [if_neg c12] at H
     exact absurd H (by simp)

/-! ### strings_Trim: function 38, by the shelf's contract, at a cutset of one byte -/
def strings_Trim.f (a0 : ByteArray) (a1 : ByteArray) : Option (ByteArray) := if a0.size ≤ 9223372036854775807 ∧ a1.size = 1 ∧ (a1.data.toList.getD 0 0).toNat < 128 then some ⟨(Lib.trimB a0.data.toList (a1.data.toList.getD 0 0)).toArray⟩ else none
theorem strings_Trim.calls (a0 : ByteArray) (a1 : ByteArray) (r : ByteArray) (w : World) (h : strings_Trim.f a0 a1 = some r) :
  Calls Tryd.prog 38 #[.string a0, .string a1] w fun e w' => e = .returned (.string r) ∧ Drawn0 w w' := by
 unfold strings_Trim.f at h
 by_cases hb : a0.size ≤ 9223372036854775807 ∧ a1.size = 1 ∧ (a1.data.toList.getD 0 0).toNat < 128
 ·rw [if_pos hb] at h
  obtain rfl := Option.some.inj h
  obtain ⟨hs, h1, hc⟩ := hb
  obtain ⟨c, rfl⟩ : ∃ c, a1 = ⟨#[c]⟩ := by
   obtain ⟨⟨l⟩⟩ := a1
   match l, h1 with
   | [c], _ => exact ⟨c, rfl⟩
  refine (Go.Proofs.Tryd.strings_Trim_one a0 c hc w hs).mono ?_
  rintro e w' ⟨he, hw⟩
  refine ⟨he, ?_⟩
  rcases hw with hw | hw
  ·rw [hw]; exact Drawn0.refl _
  rw [hw]; exact ⟨1, rfl⟩
 rw [if_neg hb] at h
 cases h

end Go.Proofs.YtafpbechcjcdbaaDoor.PFnExactParseDate
