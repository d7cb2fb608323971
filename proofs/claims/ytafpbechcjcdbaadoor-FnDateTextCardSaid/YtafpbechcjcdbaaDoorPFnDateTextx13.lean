-- By a program of this session.
import Derived.Test.YtafpbechcjcdbaaDoorPFnDateTextx0
import Derived.Test.YtafpbechcjcdbaaDoorPFnDateTextx5
import Derived.Test.YtafpbechcjcdbaaDoorPFnDateTextx6
import Derived.Test.YtafpbechcjcdbaaDoorPFnDateTextx11
import Derived.Test.YtafpbechcjcdbaaDoorPFnDateTextx12
namespace Go.Proofs.YtafpbechcjcdbaaDoor.PFnDateText
open Go.RowKit Go.Proofs.YtafpbechcjcdbaaDoorW.PrintWords Go.Proofs.YtafpbechcjcdbaaDoorW.PrintLast Go.Proofs.YtafpbechcjcdbaaDoorW.PrintMore
open Go.Proofs.YtafpbechcjcdbaaDoorW.PrintWords renaming blk_cell → Ba, blk_frozen → Bb, pw_below_drewN → Bc, below_drew1 → Bd, below_alloc → Be, blk_drewN → Bf, blk_alloc → Bg, blk_drew → Bh, below_set → Bs
open Go.Proofs.YtafpbechcjcdbaaDoorW.PrintWords.Aside0 renaming mk → aM
open Option renaming bind_eq_some_iff → bI
open Bool renaming true → Y, false → X
open List renaming setIfInBounds_toArray → sA, set_cons_zero → sZ, set_cons_succ → sS, map_toArray → mT, map_cons → mC, map_nil → mN, length_drop → lD, length_take → lT
attribute [local go_sem] max2_int min2_int max_two min_two max_three min_three max_four min_four
set_option linter.unusedVariables false
set_option linter.unusedSimpArgs false
def impl_ParseDate.month (x : ByteArray) : List ByteArray → Nat → Option Int
 | [], _ => some (-1)
 | m :: r, i => (impl_SameText.f m x).bind fun b => if b = true then some (i : Int) else impl_ParseDate.month x r (i + 1)
set_option maxHeartbeats 4000000 in
set_option maxRecDepth 100000 in
theorem impl_ParseDate.empty (x : ByteArray) (W : World) :
  Calls Tryd.prog 31 #[.string x] W fun e w' => e = .returned (.bool (x.toList == ([] : List UInt8))) ∧ Drawn0 W w' := by
 go_enter Tryd.func31, Tryd.ntmps31
 go_wp2
 go_ret
 exact ⟨by first | rfl | (simp; done), by repeat (first | exact Drawn0.refl _ | apply Drawn0.step)⟩
set_option maxHeartbeats 4000000 in
set_option maxRecDepth 100000 in
theorem impl_ParseDate.same (m x : ByteArray) (b : Bool) (g7 g n c : Nat) (W : World) (h : impl_SameText.f m x = some b) (h7 : W.cell? ⟨g7, 0, none⟩ = some (.slice (some ⟨g, 0, none⟩) n c)) (hn : 1 < n) (hx : W.cell? ⟨g, 1, none⟩ = some (.string x)) :
  Calls Tryd.prog 34 #[.string m, .pointer (some ⟨g7, 0, none⟩)] W fun e w' => e = .returned (.bool b) ∧ Below W.heap.size W w' := by
 have q1 : (1 : Int) < (n : Int) := by omega
 have H := aM h
 clear h
 go_enter Tryd.func34, Tryd.ntmps34
 go_wp2_with (go_at_call 35; refine (impl_SameText.calls m x b _ H.out).mono ?_; rintro e w' ⟨rfl, hb⟩)
 go_ret
 exact ⟨rfl, hb⟩
set_option maxHeartbeats 4000000 in
set_option maxRecDepth 100000 in
theorem impl_ParseDate.index (x : ByteArray) (ms : List ByteArray) (z : Int) (g0 g7 g n c : Nat) (w : World) (h : impl_ParseDate.month x ms 0 = some z) (hms : ms.length ≤ 9223372036854775807)
  (h0 : ∀ (j : Nat) p, ms[j]? = some p → w.cell? ⟨g0, j, none⟩ = some (.string p)) (l0 : g0 < w.heap.size)
  (h7 : w.cell? ⟨g7, 0, none⟩ = some (.slice (some ⟨g, 0, none⟩) n c)) (l7 : g7 < w.heap.size) (hn : 1 < n) (hx : w.cell? ⟨g, 1, none⟩ = some (.string x)) (lg : g < w.heap.size) :
  Calls Tryd.prog 33 #[.slice (some ⟨g0, 0, none⟩) ms.length ms.length, .func (.func 34) #[] #[.pointer (some ⟨g7, 0, none⟩)]] w fun e w' => e = .returned (.int .i64 z) ∧ Below w.heap.size w w' := by
 have eg : ∀ args w, (callFunc 34 args).run Tryd.prog w = .ok (.enter 34 args) w := Go.Proofs.enters_of Tryd.func34 (by kernel_rfl) rfl
 have H := aM h
 have H0 := aM h0
 have H7 := aM h7
 have HX := aM hx
 clear h h0 h7 hx
 go_enter Tryd.func33, Tryd.ntmps33
 go_wp2
 go_loopg [8] ms.length (fun gg v8 wr => ∃ (i : Nat), v8 = .int .i64 i ∧ i ≤ ms.length ∧ ms.length - i ≤ gg ∧ Aside0 (impl_ParseDate.month x (ms.drop i) i = some z) ∧ Aside0 (Below w.heap.size w wr))
 case atStart => exact ⟨0, by first | rfl | (simp; done), by omega, by omega, H, ⟨Below.refl _ _⟩⟩
 case round =>
  obtain ⟨i, rfl, hi, hg, RG, RB⟩ := hrel
  by_cases hlt : i < ms.length
  ·obtain ⟨p, hp⟩ : ∃ p, ms[i]? = some p := ⟨ms[i], List.getElem?_eq_getElem hlt⟩
   have hdrop : ms.drop i = p :: ms.drop (i + 1) := by
    rw [List.drop_eq_getElem_cons hlt]
    rw [List.getElem?_eq_getElem hlt] at hp
    rw [Option.some.inj hp]
   have G := RG.out
   rw [hdrop] at G
   unfold impl_ParseDate.month at G
   obtain ⟨b, D, G⟩ := bI.mp G
   have hq : (i : Int) < (ms.length : Int) := by omega
   have hq0 : (0 : Int) ≤ (i : Int) := by omega
   have hd : decide ((i : Int) < (ms.length : Int)) = true := decide_eq_true hq
   have hc := (RB.out.cell (p := ⟨g0, i, none⟩) l0).trans (H0.out i p hp); have hcall := impl_ParseDate.same p x b g7 g n c wr D ((RB.out.cell (p := ⟨g7, 0, none⟩) l7).trans H7.out) hn ((RB.out.cell (p := ⟨g, 1, none⟩) lg).trans HX.out); have HG := aM G; clear G D hdrop RG H
   cases b with
   | false =>
    go_wp2_with (go_at_fn 34; refine hcall.mono ?_; rintro e w' ⟨rfl, hb⟩)
    go_roundg (ms.length - (i + 1))
    case measure => omega
    case rel => exact ⟨i + 1, by first | rfl | go_num, by omega, by omega, ⟨by have q := HG.out; rw [if_neg (by simp)] at q; exact q⟩, ⟨RB.out.trans (hb.mono RB.out.size)⟩⟩
   | true =>
    have q := HG.out
    rw [if_pos rfl] at q
    obtain rfl := Option.some.inj q
    clear q HG
    go_wp2_with (go_at_fn 34; refine hcall.mono ?_; rintro e w' ⟨rfl, hb⟩)
    go_ret
    exact ⟨rfl, RB.out.trans (hb.mono RB.out.size)⟩
  obtain rfl : i = ms.length := by omega
  have G := RG.out
  rw [List.drop_length] at G
  unfold impl_ParseDate.month at G
  obtain rfl := Option.some.inj G
  have hd : decide ((ms.length : Int) < (ms.length : Int)) = false := decide_eq_false (by omega)
  clear G RG H
  go_wp2
  go_ret
  exact ⟨rfl, RB.out⟩
theorem impl_ParseDate.row {W : World} {base : Nat} {ok : Nat → Prop} {v : Value} {ps : List ByteArray} (ho : Kd.R Kd.string 9 W base ok v ps) (hp : 0 < ps.length) :
  ∃ g c, v = .slice (some ⟨g, 0, none⟩) ps.length c ∧ base ≤ g ∧ g < W.heap.size ∧ ps.length ≤ c ∧ ∀ (j : Nat) p, ps[j]? = some p → W.cell? ⟨g, j, none⟩ = some (.string p) ∧ W.frozen? ⟨g, j, none⟩ = false := by
 obtain ⟨g, c, rfl, hg0, hg1, -⟩ := Kd.R_form ho hp
 refine ⟨g, c, rfl, hg0, hg1, (Kd.R_reads' ho).2.1, fun j p hj => ?_⟩
 have hj2 := (List.getElem?_eq_some_iff.1 hj).1
 have e1 := Kd.R_cell ByteArray.empty ho (j : Int) (by omega) (by omega)
 rw [Int.toNat_natCast] at e1
 refine ⟨?_, e1.2⟩
 rw [e1.1]
 unfold rdOf
 rw [List.getD_eq_getElem?_getD, Int.toNat_natCast, hj]
 rfl
theorem impl_ParseDate.del (g cap : Nat) (ps fs : List ByteArray) (hfs : fs = ps.filter fun x => !(x.toList == ([] : List UInt8))) (B : Nat) (w0 w : World) (hb : Below B w0 w) (hB : B ≤ g) (hn : ps.length ≤ 9223372036854775807) (hcap : ps.length ≤ cap)
  (hc : ∀ (j : Nat) p, ps[j]? = some p → w.cell? ⟨g, j, none⟩ = some (.string p) ∧ w.frozen? ⟨g, j, none⟩ = false) :
  Calls Tryd.prog 29 #[.slice (some ⟨g, 0, none⟩) ps.length cap, .func (.func 31) #[] #[]] w fun e w' => e = .returned (.slice (some ⟨g, 0, none⟩) fs.length cap) ∧ (∀ (j : Nat) p, fs[j]? = some p → w'.cell? ⟨g, j, none⟩ = some (.string p)) ∧ Below B w0 w' ∧ w'.heap.size = w.heap.size := by
 have eg : ∀ args w, (callFunc 31 args).run Tryd.prog w = .ok (.enter 31 args) w := Go.Proofs.enters_of Tryd.func31 (by kernel_rfl) rfl
 have hH : Go.Sort.Holds Value.string w g 0 ps.toArray := by
  intro j hj
  have hj' : j < ps.length := by simpa using hj
  have q := hc j ps[j] (List.getElem?_eq_getElem hj')
  rw [Nat.zero_add, getElem!_pos ps.toArray j hj]
  simpa using q
 have hd := AnyE.slices_DeleteFunc Go.Proofs.Tryd.lgDF Value.string (fun _ => rfl) (fun x => x.toList == ([] : List UInt8)) 31 #[] eg ByteArray.empty (by intro w; kernel_rfl) g 0 cap ps.toArray w
  (fun W x _ => (impl_ParseDate.empty x W).mono fun e w' ⟨he, hd⟩ => ⟨he, hd.out⟩) (fun n os dk x _ => (impl_ParseDate.empty x _).mono fun e w' ⟨he, hd⟩ => ⟨he, hd.out⟩) hH (by simpa using hn) (by simpa using hcap)
 rw [show ps.toArray.toList = ps from rfl, show ps.toArray.size = ps.length from rfl] at hd
 have hlen : fs.length ≤ ps.length := by rw [hfs]; exact List.length_filter_le _ _
 rw [← hfs] at hd
 obtain ⟨d', hd'⟩ : ∃ d' : Array ByteArray, d' = (fs ++ List.replicate (ps.length - fs.length) ByteArray.empty).toArray := ⟨_, rfl⟩
 rw [← hd'] at hd
 have hds : d'.size = ps.toArray.size := by rw [hd']; simp; omega
 change Calls Tryd.prog 29 _ _ _ at hd
 refine hd.mono fun e w' ⟨he, q, hw⟩ => ⟨he, ?_, ?_, ?_⟩
 ·intro j p hj
  have hj2 := (List.getElem?_eq_some_iff.1 hj).1
  have hjd : j < d'.size := by rw [hds]; simp; omega
  have hh := (Go.Sort.holds_putRow Value.string (Go.Sort.ahead w q) g 0 ps.toArray d' (Go.Sort.holds_ahead Value.string w q g 0 ps.toArray hH) hds j hjd).1
  rw [← hw, Nat.zero_add, getElem!_pos d' j hjd] at hh
  rw [hh]
  congr 2
  have e2 : d'[j]? = some p := by
   rw [hd', List.getElem?_toArray, List.getElem?_append_left hj2, hj]
  rw [Array.getElem?_eq_getElem hjd] at e2
  exact Option.some.inj e2
 ·rw [hw]; exact Go.Lib.below_putRow hb hB
 rw [hw, Go.Sort.size_putRow]; rfl
def impl_ParseDate.fin (k : Nat) (wd : ByteArray) (named one two three four : Bool) (y mo d h mi s z : Int) : Option (Int × Int × Int × Int × Int × Int × Int × Bool) :=
 if (one && two && three && four) = true then
  (impl_DateValid.f k y mo d h mi s z).bind fun v => if v = true then
   if named = true then (strings_Trim.f wd ⟨#[32]⟩).bind fun tr => (impl_WeekdayOf.f k y mo d h mi s z).bind fun wk => (impl_SameText.f tr wk).bind fun b => if b = true then some (y, mo, d, h, mi, s, z, true) else some (0, 0, 0, 0, 0, 0, 0, false)
   else some (y, mo, d, h, mi, s, z, true)
  else some (0, 0, 0, 0, 0, 0, 0, false)
 else some (0, 0, 0, 0, 0, 0, 0, false)
theorem impl_ParseDate.fin_no {k : Nat} {wd : ByteArray} {named one two three four : Bool} {y mo d h mi s z : Int} (hn : (one && two && three && four) = false) : impl_ParseDate.fin k wd named one two three four y mo d h mi s z = some (0, 0, 0, 0, 0, 0, 0, false) := by
 unfold impl_ParseDate.fin
 rw [if_neg (by rw [hn]; decide)]
def impl_ParseDate.words (k : Nat) (wd : ByteArray) (named : Bool) : List ByteArray → Option (Int × Int × Int × Int × Int × Int × Int × Bool)
 | [x0, x1, x2, x3, x4] => (impl_digits.f k x0 1 2).bind fun dy => (impl_ParseDate.month x1 monL 0).bind fun mo => (impl_digits.f k x2 4 4).bind fun yr => (impl_parseTime.f k x3).bind fun tm => (impl_parseZone.f k x4).bind fun zn =>
   impl_ParseDate.fin k wd named dy.2 yr.2 tm.2.2.2 zn.2 yr.1 (wrap64 (mo + 1)) dy.1 tm.1 tm.2.1 tm.2.2.1 zn.1
 | _ => some (0, 0, 0, 0, 0, 0, 0, false)
def impl_ParseDate.f (k : Nat) (a0 : ByteArray) : Option (Int × Int × Int × Int × Int × Int × Int × Bool) :=
 (impl_TextValid.f k a0).bind fun t => if t = true then
  (strings_Cut.f a0 ⟨#[44]⟩).bind fun q => (strings_Split.f (if q.2.2 = true then q.2.1 else a0) ⟨#[32]⟩).bind fun ps => if 0 < ps.length ∧ ps.length ≤ 9223372036854775807 then impl_ParseDate.words k q.1 q.2.2 (ps.filter fun x => !(x.toList == ([] : List UInt8))) else none
 else some (0, 0, 0, 0, 0, 0, 0, false)
theorem impl_ParseDate.tup {a1 a2 a3 a4 a5 a6 a7 b1 b2 b3 b4 b5 b6 b7 : Int} {a8 b8 : Bool} (h : some (a1, a2, a3, a4, a5, a6, a7, a8) = some (b1, b2, b3, b4, b5, b6, b7, b8)) : a1 = b1 ∧ a2 = b2 ∧ a3 = b3 ∧ a4 = b4 ∧ a5 = b5 ∧ a6 = b6 ∧ a7 = b7 ∧ a8 = b8 := by
 simpa using h
theorem impl_ParseDate.seven {W : World} {g : Nat} {v0 v1 v2 v3 v4 v5 v6 : Value} {a0 a1 a2 a3 a4 a5 a6 : Value} {t : TypeId} (h : W.heap[g]? = some (.cells #[a0, a1, a2, a3, a4, a5, a6] t (0, 0))) :
  (((((((W.setCell ⟨g, 0, none⟩ v0).setCell ⟨g, 1, none⟩ v1).setCell ⟨g, 2, none⟩ v2).setCell ⟨g, 3, none⟩ v3).setCell ⟨g, 4, none⟩ v4).setCell ⟨g, 5, none⟩ v5).setCell ⟨g, 6, none⟩ v6).heap[g]? = some (.cells #[v0, v1, v2, v3, v4, v5, v6] t (0, 0)) :=
 blk_put (cs := #[v0, v1, v2, v3, v4, v5, a6]) (blk_put (cs := #[v0, v1, v2, v3, v4, a5, a6]) (blk_put (cs := #[v0, v1, v2, v3, a4, a5, a6]) (blk_put (cs := #[v0, v1, v2, a3, a4, a5, a6]) (blk_put (cs := #[v0, v1, a2, a3, a4, a5, a6]) (blk_put (cs := #[v0, a1, a2, a3, a4, a5, a6]) (blk_put (cs := #[a0, a1, a2, a3, a4, a5, a6]) h 0 _ rfl) 1 _ rfl) 2 _ rfl) 3 _ rfl) 4 _ rfl) 5 _ rfl) 6 _ rfl
theorem impl_ParseDate.below7 {B : Nat} {w W : World} {g : Nat} {v0 v1 v2 v3 v4 v5 v6 : Value} (h : Below B w W) (hg : B ≤ g) :
  Below B w (((((((W.setCell ⟨g, 0, none⟩ v0).setCell ⟨g, 1, none⟩ v1).setCell ⟨g, 2, none⟩ v2).setCell ⟨g, 3, none⟩ v3).setCell ⟨g, 4, none⟩ v4).setCell ⟨g, 5, none⟩ v5).setCell ⟨g, 6, none⟩ v6) :=
 ((((((h.setCell hg _).setCell hg _).setCell hg _).setCell hg _).setCell hg _).setCell hg _).setCell hg _
theorem impl_ParseDate.words_ne (k : Nat) (wd : ByteArray) (named : Bool) (l : List ByteArray) (h : l.length ≠ 5) : impl_ParseDate.words k wd named l = some (0, 0, 0, 0, 0, 0, 0, false) := by
 match l, h with
 | [], _ => rfl
 | [_], _ => rfl
 | [_, _], _ => rfl
 | [_, _, _], _ => rfl
 | [_, _, _, _], _ => rfl
 | [_, _, _, _, _], h => exact absurd rfl h
 | _ :: _ :: _ :: _ :: _ :: _ :: _, _ => rfl
theorem impl_ParseDate.five (l : List ByteArray) (h : l.length = 5) : ∃ x0 x1 x2 x3 x4, l = [x0, x1, x2, x3, x4] := by
 match l, h with
 | [x0, x1, x2, x3, x4], _ => exact ⟨x0, x1, x2, x3, x4, rfl⟩
theorem impl_ParseDate.words_inv {k : Nat} {wd : ByteArray} {named : Bool} {x0 x1 x2 x3 x4 : ByteArray} {r : Int × Int × Int × Int × Int × Int × Int × Bool} (h : impl_ParseDate.words k wd named [x0, x1, x2, x3, x4] = some r) :
  ∃ dn one mo yn two th tm ts three zn four, impl_digits.f k x0 1 2 = some (dn, one) ∧ impl_ParseDate.month x1 monL 0 = some mo ∧ impl_digits.f k x2 4 4 = some (yn, two) ∧ impl_parseTime.f k x3 = some (th, tm, ts, three) ∧ impl_parseZone.f k x4 = some (zn, four) ∧ impl_ParseDate.fin k wd named one two three four yn (wrap64 (mo + 1)) dn th tm ts zn = some r := by
 unfold impl_ParseDate.words at h
 obtain ⟨⟨dn, one⟩, e0, h⟩ := bI.mp h
 obtain ⟨mo, e1, h⟩ := bI.mp h
 obtain ⟨⟨yn, two⟩, e2, h⟩ := bI.mp h
 obtain ⟨⟨th, tm, ts, three⟩, e3, h⟩ := bI.mp h
 obtain ⟨⟨zn, four⟩, e4, h⟩ := bI.mp h
 exact ⟨dn, one, mo, yn, two, th, tm, ts, three, zn, four, e0, e1, e2, e3, e4, h⟩
theorem AmbM.name {w : World} (h : AmbM w) (j : Nat) (p : ByteArray) (hj : monL[j]? = some p) : w.cell? ⟨0, j, none⟩ = some (.string p) := by
 have h1 := (List.getElem?_eq_some_iff.1 hj).1
 rw [h j h1, List.getD_eq_getElem?_getD, hj]
 rfl
theorem impl_ParseDate.fin_mono (k : Nat) (wd : ByteArray) (named one two three four : Bool) (y mo d h mi s z : Int) : LeO (impl_ParseDate.fin k wd named one two three four y mo d h mi s z) (impl_ParseDate.fin (k + 1) wd named one two three four y mo d h mi s z) := by
 unfold impl_ParseDate.fin
 exact LeO.ite (LeO.bind (impl_DateValid.mono _ _ _ _ _ _ _ _) (fun _ => LeO.ite (LeO.ite (LeO.bind (LeO.refl _) (fun _ => LeO.bind (impl_WeekdayOf.mono _ _ _ _ _ _ _ _) (fun _ => LeO.refl _))) (LeO.refl _)) (LeO.refl _))) (LeO.refl _)
theorem impl_ParseDate.words_mono (k : Nat) (wd : ByteArray) (named : Bool) (l : List ByteArray) : LeO (impl_ParseDate.words k wd named l) (impl_ParseDate.words (k + 1) wd named l) := by
 by_cases h : l.length = 5
 ·obtain ⟨x0, x1, x2, x3, x4, rfl⟩ := impl_ParseDate.five l h
  unfold impl_ParseDate.words
  exact LeO.bind (impl_digits.mono _ _ _ _) (fun _ => LeO.bind (LeO.refl _) (fun _ => LeO.bind (impl_digits.mono _ _ _ _) (fun _ => LeO.bind (impl_parseTime.mono _ _) (fun _ => LeO.bind (impl_parseZone.mono _ _) (fun _ => impl_ParseDate.fin_mono _ _ _ _ _ _ _ _ _ _ _ _ _ _)))))
 rw [impl_ParseDate.words_ne _ _ _ _ h, impl_ParseDate.words_ne _ _ _ _ h]
 exact LeO.refl _
theorem impl_ParseDate.mono : ∀ a0 k, LeO (impl_ParseDate.f k a0) (impl_ParseDate.f (k + 1) a0) := by
 intro a0 k
 unfold impl_ParseDate.f
 exact LeO.bind (impl_TextValid.mono _ _) (fun _ => LeO.ite (LeO.bind (LeO.refl _) (fun _ => LeO.bind (LeO.refl _) (fun _ => LeO.ite (impl_ParseDate.words_mono _ _ _ _) (LeO.refl _)))) (LeO.refl _))
theorem impl_ParseDate.st7 {w wA w4 w5 : World} {g g7 c : Nat} {fs : List ByteArray} {cs : Array Value} {t u : TypeId} {old : Value} (hA : wA.heap[w.heap.size]? = some (.cells cs t (0, 0))) (hwA : Below w.heap.size w wA) (h4 : Below wA.heap.size wA w4) (hg : wA.heap.size ≤ g) (hg4 : g < w4.heap.size)
  (h5 : Below w4.heap.size w4 w5) (hg7 : g7 = w4.heap.size) (hx : w5.heap[g7]? = some (.cells #[old] u (0, 0))) (hc : ∀ (j : Nat) p, fs[j]? = some p → w4.cell? ⟨g, j, none⟩ = some (.string p)) :
  ∃ W, W = w5.setCell ⟨g7, 0, none⟩ (.slice (some ⟨g, 0, none⟩) fs.length c) ∧ W.heap[w.heap.size]? = some (.cells cs t (0, 0)) ∧ W.heap[g7]? = some (.cells #[.slice (some ⟨g, 0, none⟩) fs.length c] u (0, 0)) ∧ (∀ (j : Nat) p, fs[j]? = some p → W.cell? ⟨g, j, none⟩ = some (.string p)) ∧ Below w.heap.size w W ∧ g < W.heap.size ∧ w.heap.size < g ∧ g < g7 := by
 have l2 : w.heap.size < wA.heap.size := blk_lt hA
 have l4 := h4.size
 refine ⟨_, rfl, blk_far (blk_below (blk_below hA h4) h5) (by show w.heap.size ≠ g7; omega) _, blk_put hx 0 _ rfl, fun j p hj => ?_, ?_, ?_, by omega, by omega⟩
 ·rw [World.cell?_setCell_far _ _ _ _ (by show g7 ≠ g; omega)]
  exact (h5.cell (p := ⟨g, j, none⟩) hg4).trans (hc j p hj)
 ·exact ((hwA.trans (h4.mono (by omega))).trans (h5.mono (by omega))).setCell (by show w.heap.size ≤ g7; omega) _
 have := h5.size
 have e : (w5.setCell ⟨g7, 0, none⟩ (.slice (some ⟨g, 0, none⟩) fs.length c)).heap.size = w5.heap.size := by simp [World.setCell]
 rw [e]
 omega
theorem impl_ParseDate.st13 {w w8 w9 w10 : World} {g g7 g13 : Nat} {fs : List ByteArray} {cs k7 : Array Value} {t u t13 : TypeId} {th tm ts : Int} {o0 o1 o2 : Value} (hz : w8.heap[w.heap.size]? = some (.cells cs t (0, 0))) (hk : w8.heap[g7]? = some (.cells k7 u (0, 0))) (hq : ∀ (j : Nat) p, fs[j]? = some p → w8.cell? ⟨g, j, none⟩ = some (.string p)) (hg : g < w8.heap.size) (hB : Below w.heap.size w w8)
  (h9 : Below w8.heap.size w8 w9) (h10 : Below w9.heap.size w9 w10) (hg13 : g13 = w9.heap.size) (hx : w10.heap[g13]? = some (.cells #[o0, o1, o2] t13 (0, 0))) :
  ∃ W, W = ((w10.setCell ⟨g13, 0, none⟩ (.int .i64 th)).setCell ⟨g13, 1, none⟩ (.int .i64 tm)).setCell ⟨g13, 2, none⟩ (.int .i64 ts) ∧ W.heap[w.heap.size]? = some (.cells cs t (0, 0)) ∧ W.heap[g7]? = some (.cells k7 u (0, 0)) ∧ (∀ (j : Nat) p, fs[j]? = some p → W.cell? ⟨g, j, none⟩ = some (.string p)) ∧ W.heap[g13]? = some (.cells #[.int .i64 th, .int .i64 tm, .int .i64 ts] t13 (0, 0)) ∧ Below w.heap.size w W ∧ w.heap.size < g13 := by
 have l2 := blk_lt hz
 have l7 := blk_lt hk
 have l9 := h9.size
 have hb : Below w.heap.size w w10 := (hB.trans (h9.mono hB.size)).trans (h10.mono (by omega))
 refine ⟨_, rfl, blk_far (blk_far (blk_far (blk_below (blk_below hz h9) h10) (by show w.heap.size ≠ g13; omega) _) (by show w.heap.size ≠ g13; omega) _) (by show w.heap.size ≠ g13; omega) _, blk_far (blk_far (blk_far (blk_below (blk_below hk h9) h10) (by show g7 ≠ g13; omega) _) (by show g7 ≠ g13; omega) _) (by show g7 ≠ g13; omega) _, fun j p hj => ?_, blk_put (cs := #[.int .i64 th, .int .i64 tm, o2]) (blk_put (cs := #[.int .i64 th, o1, o2]) (blk_put (cs := #[o0, o1, o2]) hx 0 _ rfl) 1 _ rfl) 2 _ rfl, ((hb.setCell (by show w.heap.size ≤ g13; omega) _).setCell (by show w.heap.size ≤ g13; omega) _).setCell (by show w.heap.size ≤ g13; omega) _, by omega⟩
 rw [World.cell?_setCell_far _ _ _ _ (by show g13 ≠ g; omega), World.cell?_setCell_far _ _ _ _ (by show g13 ≠ g; omega), World.cell?_setCell_far _ _ _ _ (by show g13 ≠ g; omega)]
 exact ((h10.cell (p := ⟨g, j, none⟩) (by show g < w9.heap.size; omega)).trans (h9.cell (p := ⟨g, j, none⟩) hg)).trans (hq j p hj)
theorem impl_ParseDate.st15 {w w11 w13 : World} {g17 : Nat} {cs : Array Value} {t t17 : TypeId} {v0 v1 v2 v3 v4 v5 v6 o0 o1 o2 o3 o4 o5 o6 : Value} (hz : w11.heap[w.heap.size]? = some (.cells cs t (0, 0))) (hB : Below w.heap.size w w11) (h13 : Below w11.heap.size w11 w13) (hg17 : g17 = w11.heap.size) (hx : w13.heap[g17]? = some (.cells #[o0, o1, o2, o3, o4, o5, o6] t17 (0, 0))) :
  ∃ W, W = (((((((w13.setCell ⟨g17, 0, none⟩ v0).setCell ⟨g17, 1, none⟩ v1).setCell ⟨g17, 2, none⟩ v2).setCell ⟨g17, 3, none⟩ v3).setCell ⟨g17, 4, none⟩ v4).setCell ⟨g17, 5, none⟩ v5).setCell ⟨g17, 6, none⟩ v6) ∧ W.heap[w.heap.size]? = some (.cells cs t (0, 0)) ∧ W.heap[g17]? = some (.cells #[v0, v1, v2, v3, v4, v5, v6] t17 (0, 0)) ∧ Below w.heap.size w W ∧ w.heap.size < g17 := by
 have l2 := blk_lt hz
 have hn : ∀ j, w.heap.size ≠ (Addr.mk g17 j none).block := fun j => by show w.heap.size ≠ g17; omega
 exact ⟨_, rfl, blk_far (blk_far (blk_far (blk_far (blk_far (blk_far (blk_far (blk_below hz h13) (hn 0) _) (hn 1) _) (hn 2) _) (hn 3) _) (hn 4) _) (hn 5) _) (hn 6) _, impl_ParseDate.seven hx, impl_ParseDate.below7 (hB.trans (h13.mono hB.size)) (by omega), by omega⟩
def impl_ParseDate.T15 : Bool × List (List Nat × List Nat) := (true, [([], []), ([0], [0]), ([1], [1]), ([2], [2]), ([3, 2], [2, 3]), ([2, 4], [2, 4]), ([5, 2], [5]), ([6], [6]), ([7, 6], [6, 7]), ([6, 8], [6, 8]), ([9, 6], [9]), ([10], [10]), ([11, 10], [10, 11]), ([10, 12], [10, 12]), ([13, 10], [13]), ([14], [14]), ([15, 14, 14], [14, 15]), ([16, 14], [14, 16]), ([14, 17], [14, 17]), ([18, 16], [18]), ([19], [19]), ([20, 19, 19], [19, 20]), ([21], [21]), ([22, 21, 21], [21, 22]), ([21], [21]), ([24, 23, 21], [21, 24]), ([23, 25, 25, 21], [21, 23, 25]), ([26, 21], [21, 26]), ([21, 27, 19], [19, 21, 27]), ([19, 28], [19, 28])])
def impl_ParseDate.B15 : List Nat := [0, 1, 3, 7, 15, 31, 63, 127, 255, 511, 1023, 2047, 4095, 8191, 16383, 32767, 65535, 131071, 262143, 524287, 1048575, 2097151, 4194303, 8388607, 4194303, 33554431, 67108863, 134217727, 268435455, 536870911]
theorem impl_ParseDate.tab15 : rtab .any (opsOf Tryd.f12 15) = impl_ParseDate.T15 := by kernel_rfl
theorem impl_ParseDate.bits15 : waitsOk impl_ParseDate.T15.2 impl_ParseDate.B15 = true := by kernel_rfl
set_option maxHeartbeats 8000000 in
set_option maxRecDepth 100000 in
theorem impl_ParseDate.calls (k : Nat) (a0 : ByteArray) (r1 r2 r3 r4 r5 r6 r7 : Int) (r8 : Bool) (w : World) (h : impl_ParseDate.f k a0 = some (r1, r2, r3, r4, r5, r6, r7, r8)) (hS : AmbM w := by repeat (first | (with_reducible assumption) | assumption | (with_reducible apply AmbM.drewN) | (with_reducible apply AmbM.drew) | (with_reducible apply AmbM.alloc) | exact AmbM.below (by assumption) (Aside0.out (by assumption)) | exact AmbM.below (by assumption) (by assumption) | exact AmbM.below (by assumption) (by repeat (first | exact Aside0.out (by assumption) | apply below_alloc | apply pw_below_drewN | apply below_drew1 | refine Bs ?_ (Aside0.out (by assumption)))))) :
  Calls Tryd.prog 12 #[.string a0] w fun e w' => e = .returned (.tuple #[.agg #[.int .i64 r1, .int .i64 r2, .int .i64 r3, .int .i64 r4, .int .i64 r5, .int .i64 r6, .int .i64 r7], .bool r8]) ∧ Below w.heap.size w w' := by
 have HRg0 := aM hS.read
 obtain ⟨t, A20, H⟩ := bI.mp h
 clear h
 have A2 := aM A20
 clear A20
 cases t with
 | false =>
  rw [if_neg (by simp)] at H
  obtain ⟨rfl, rfl, rfl, rfl, rfl, rfl, rfl, rfl⟩ := impl_ParseDate.tup H
  clear H
  go_enter Tryd.func12, Tryd.ntmps12
  go_wp2_with (first | (go_at_call 27; refine (impl_TextValid.calls k a0 false _ A2.out).mono ?_; rintro e w1 ⟨rfl, ⟨nd, rfl⟩⟩))
  refine bodyPost_ret (results_ct rfl _ _ w.heap.size 24 #[.int .i64 0, .int .i64 0, .int .i64 0, .int .i64 0, .int .i64 0, .int .i64 0, .int .i64 0] (0, 0) _ rfl (impl_ParseDate.seven (Bf (blk_new w _) _)) Tryd.underlying24 rfl (by kernel_rfl)) rfl ?_
  exact ⟨rfl, impl_ParseDate.below7 (Bc ((Below.refl _ _).alloc (Nat.le_refl _) _) _) (Nat.le_refl _)⟩
 | true =>
  rw [if_pos rfl] at H
  obtain ⟨⟨wd, rest, named⟩, A30, H⟩ := bI.mp H
  have A3 := aM A30
  clear A30
  obtain ⟨ps, A40, H⟩ := bI.mp H
  have A4 := aM A40
  clear A40
  by_cases hps : 0 < ps.length ∧ ps.length ≤ 9223372036854775807
  ·rw [if_pos hps] at H
   obtain ⟨x5, hx5⟩ : ∃ x5, Aside0 (x5 = (if named = true then rest else a0)) := ⟨_, ⟨rfl⟩⟩
   have A5 : Aside0 (strings_Split.f x5 ⟨#[32]⟩ = some ps) := ⟨by rw [hx5.out]; exact A4.out⟩
   obtain ⟨fs, hfs⟩ : ∃ fs, Aside0 (fs = ps.filter fun x => !(x.toList == ([] : List UInt8))) := ⟨_, ⟨rfl⟩⟩
   have H2 : impl_ParseDate.words k wd named fs = some (r1, r2, r3, r4, r5, r6, r7, r8) := by rw [hfs.out]; exact H
   have HH := aM H2; clear A4 H H2
   cases named
   all_goals
    have e5 := hx5.out; (first | rw [if_pos rfl] at e5 | rw [if_neg Bool.false_ne_true] at e5)
    rw [e5] at A5
    clear e5 hx5
    go_enter Tryd.func12, Tryd.ntmps12
    go_upto_region 6 with (first | (go_at_call 27; refine (impl_TextValid.calls k a0 true _ A2.out).mono ?_; rintro e w1 ⟨rfl, ⟨nd, rfl⟩⟩) | (go_at_call 28; refine (strings_Cut.calls a0 ⟨#[44]⟩ wd rest _ _ A3.out).mono ?_; rintro e w2 ⟨rfl, ⟨nd2, rfl⟩⟩))
    go_upto_region 7 with (first | (go_at_call 30; refine (strings_Split.calls _ ⟨#[32]⟩ ps _ A5.out).mono ?_; rintro e w3 ⟨v, rfl, ho, hb⟩; obtain ⟨g, c, rfl, hg0, hg1, hgc, hcw⟩ := impl_ParseDate.row ho hps.1; have HB3 := aM hb; have HW3 := aM hcw; clear ho hb hcw) | (go_at_call 29; refine (impl_ParseDate.del g c ps fs hfs.out _ _ _ HB3.out hg0 hps.2 hgc HW3.out).mono ?_; rintro e w4 ⟨rfl, hcells, hb4, hsz4⟩; have HC4 := aM hcells; have HB4 := aM hb4; have HZ4 := aM hsz4; clear hcells hb4 hsz4) | ((with_reducible refine gate_dst (N := 7) rfl ?_); refine box_event ?hg (N := 7) ?hd (cs := #[.slice none 0 0]) (t := 42) ?hr ?_; (case hd => rfl); (case hg => rfl); (case hr => first | (go_simp; done) | (go_simp; rfl)); intro g7 hg7 w5 hbox hb5; have HX5 := aM hbox; have HB5 := aM hb5; have c7 : w5.cell? ⟨g7, 0, none⟩ = some (.slice none 0 0) := (Ba hbox 0).trans rfl; have f7 := Bb hbox 0; have HG7 := aM hg7; clear hbox hb5 hg7))
    obtain ⟨W7, hW7, z7, k7, q7, b7, lg7, lwg, lg⟩ := impl_ParseDate.st7 (c := c) (Bf (blk_new w _) _) (Bc ((Below.refl _ w).alloc (Nat.le_refl _) _) _) HB4.out hg0 (by rw [HZ4.out]; exact hg1) HB5.out HG7.out HX5.out HC4.out
    rw [← hW7]
    clear HB3 HW3 HB4 HB5 HG7 HX5 HC4 HZ4 hg0 hg1 c7 f7 hW7; have Z7 := aM z7; have K7 := aM k7; have Q7 := aM q7; have B7 := aM b7; clear z7 k7 q7 b7
    have m7 : W7.cell? ⟨g7, 0, none⟩ = some (.slice (some ⟨g, 0, none⟩) fs.length c) := (Ba K7.out 0).trans rfl
    by_cases hf5 : fs.length = 5
    rotate_left
    ·have H := HH.out
     rw [impl_ParseDate.words_ne _ _ _ _ hf5] at H
     obtain ⟨rfl, rfl, rfl, rfl, rfl, rfl, rfl, rfl⟩ := impl_ParseDate.tup H
     have hn : ((fs.length : Int) == 5) = false := beq_eq_false_iff_ne.mpr (by omega)
     have hn2 : ((fs.length : Int) != 5) = true := bne_iff_ne.mpr (by omega)
     have hn3 : ¬ ((fs.length : Int) = 5) := by omega
     clear H hf5 HH
     obtain ⟨z20, z21, z22, z23, z24, z25, z26⟩ := c7_ Z7.out
     obtain ⟨zf0, zf1, zf2, zf3, zf4, zf5, zf6⟩ := f7_ Z7.out
     go_wp2
     refine bodyPost_ret (results_ct rfl _ _ w.heap.size 24 #[.int .i64 0, .int .i64 0, .int .i64 0, .int .i64 0, .int .i64 0, .int .i64 0, .int .i64 0] (0, 0) _ rfl (impl_ParseDate.seven (Z7.out)) Tryd.underlying24 rfl (by kernel_rfl)) rfl ?_
     exact ⟨rfl, impl_ParseDate.below7 B7.out (Nat.le_refl _)⟩
    rw [hf5] at K7 m7 ⊢
    obtain ⟨x0, x1, x2, x3, x4, rfl⟩ := impl_ParseDate.five fs hf5
    obtain ⟨dn, one, mo, yn, two, th, tm, ts, three, zn, four, a0_, a1_, a2_, a3_, a4_, H⟩ := impl_ParseDate.words_inv HH.out
    have D0 := aM a0_; have D1 := aM a1_; have D2 := aM a2_; have D3 := aM a3_; have D4 := aM a4_; have HF := aM H; clear a0_ a1_ a2_ a3_ a4_ H HH hf5; have p0 := Q7.out 0 x0 rfl; have p1 := Q7.out 1 x1 rfl
    have HM : Aside0 (∀ (j : Nat) p, monL[j]? = some p → W7.cell? ⟨0, j, none⟩ = some (.string p)) := ⟨(hS.below B7.out).name⟩
    have hS0 : 0 < W7.heap.size := (hS.below B7.out).lt
    have l7 : g7 < W7.heap.size := blk_lt K7.out
    have HI : Aside0 (∀ q : Nat, Calls Tryd.prog 33 #[.slice (some ⟨0, 0, none⟩) 12 12, .func (.func 34) #[] #[.pointer (some ⟨g7, 0, none⟩)]] (W7.drewN q) fun e w' => e = .returned (.int .i64 mo) ∧ Below W7.heap.size W7 w') := ⟨fun q => (impl_ParseDate.index x1 monL mo 0 g7 g 5 c (W7.drewN q) D1.out (by decide) HM.out hS0 m7 l7 (by decide) p1 lg7).mono fun e w' hq => ⟨hq.1, (Bc (Below.refl _ W7) q).trans hq.2⟩⟩
    go_upto_region 11 with (first | (go_at_call 32; refine (impl_digits.calls k x0 1 2 dn one _ D0.out).mono ?_; rintro e w8 ⟨rfl, ⟨nd3, rfl⟩⟩) | (go_at_call 33; refine (HI.out _).mono ?_; rintro e w8 ⟨rfl, hb⟩; have HB8 := aM hb; clear hb))
    have Z8 := aM (blk_below Z7.out HB8.out); have K8 := aM (blk_below K7.out HB8.out); have B8 := aM (B7.out.trans (HB8.out.mono B7.out.size))
    have Q8 : Aside0 (∀ (j : Nat) p, [x0, x1, x2, x3, x4][j]? = some p → w8.cell? ⟨g, j, none⟩ = some (.string p)) := ⟨fun j p hj => (HB8.out.cell (p := ⟨g, j, none⟩) lg7).trans (Q7.out j p hj)⟩
    have lg8 : g < w8.heap.size := Nat.lt_of_lt_of_le lg7 HB8.out.size
    clear Z7 K7 B7 Q7 m7 p0 p1 HM HI HB8 hS0 l7 lg7
    have m8 : w8.cell? ⟨g7, 0, none⟩ = some (.slice (some ⟨g, 0, none⟩) 5 c) := (Ba K8.out 0).trans rfl
    have p2 := Q8.out 2 x2 rfl; have p3 := Q8.out 3 x3 rfl
    go_upto_region 13 with (first | (go_at_call 32; refine (impl_digits.calls k x2 4 4 yn two _ D2.out).mono ?_; rintro e w9 ⟨rfl, ⟨nd4, rfl⟩⟩) | (go_at_call 36; refine (impl_parseTime.calls k x3 th tm ts three _ D3.out).mono ?_; rintro e w9 ⟨rfl, hb⟩; have HB9 := aM ((Bc (Below.refl _ w8) nd4).trans hb); clear hb) | ((with_reducible refine gate_dst (N := 13) rfl ?_); refine box_event ?hg (N := 13) ?hd (cs := #[.int .i64 0, .int .i64 0, .int .i64 0]) (t := 52) ?hr ?_; (case hd => rfl); (case hg => rfl); (case hr => first | (go_simp; done) | (go_simp; rfl)); intro g13 hg13 w10 hbox hb10; have HX10 := aM hbox; have HB10 := aM hb10; have t0 : w10.cell? ⟨g13, 0, none⟩ = some (.int .i64 0) := (Ba hbox 0).trans rfl; have t1 : w10.cell? ⟨g13, 1, none⟩ = some (.int .i64 0) := (Ba hbox 1).trans rfl; have t2 : w10.cell? ⟨g13, 2, none⟩ = some (.int .i64 0) := (Ba hbox 2).trans rfl; have tf0 := Bb hbox 0; have tf1 := Bb hbox 1; have tf2 := Bb hbox 2; have HG13 := aM hg13; clear hbox hb10 hg13))
    obtain ⟨W11, hW11, z11, k11, q11, t11, b11, l11⟩ := impl_ParseDate.st13 (th := th) (tm := tm) (ts := ts) Z8.out K8.out Q8.out lg8 B8.out HB9.out HB10.out HG13.out HX10.out
    rw [← hW11]
    clear Z8 K8 B8 Q8 m8 p2 p3 HB9 HB10 HX10 HG13 t0 t1 t2 tf0 tf1 tf2 hW11 lg8; have Z11 := aM z11; have K11 := aM k11; have Q11 := aM q11; have T11 := aM t11; have B11 := aM b11; clear z11 k11 q11 t11 b11
    have m11 : W11.cell? ⟨g7, 0, none⟩ = some (.slice (some ⟨g, 0, none⟩) 5 c) := (Ba K11.out 0).trans rfl
    have p4 := Q11.out 4 x4 rfl
    have t0 : W11.cell? ⟨g13, 0, none⟩ = some (.int .i64 th) := (Ba T11.out 0).trans rfl; have t1 : W11.cell? ⟨g13, 1, none⟩ = some (.int .i64 tm) := (Ba T11.out 1).trans rfl; have t2 : W11.cell? ⟨g13, 2, none⟩ = some (.int .i64 ts) := (Ba T11.out 2).trans rfl
    go_upto_region 15 with (first | (go_at_call 37; refine (impl_parseZone.calls k x4 zn four _ D4.out).mono ?_; rintro e w12 ⟨rfl, ⟨nd5, rfl⟩⟩) | ((with_reducible refine gate_dst (N := 17) rfl ?_); refine box_event ?hg (N := 17) ?hd (cs := #[.int .i64 0, .int .i64 0, .int .i64 0, .int .i64 0, .int .i64 0, .int .i64 0, .int .i64 0]) (t := 24) ?hr ?_; (case hd => rfl); (case hg => rfl); (case hr => first | (go_simp; done) | (go_simp; rfl)); intro g17 hg17 w13 hbox hb13; have HX13 := aM hbox; have HB13 := aM ((Bc (Below.refl _ W11) nd5).trans hb13); have HG17 := aM (show g17 = W11.heap.size from hg17); obtain ⟨u0, u1, u2, u3, u4, u5, u6⟩ := c7_ hbox; obtain ⟨uf0, uf1, uf2, uf3, uf4, uf5, uf6⟩ := f7_ hbox; clear hbox hb13 hg17))
    obtain ⟨W15, hW15, z15, d15, b15, l15⟩ := impl_ParseDate.st15 (v0 := .int .i64 yn) (v1 := .int .i64 (wrap64 (mo + 1))) (v2 := .int .i64 dn) (v3 := .int .i64 th) (v4 := .int .i64 tm) (v5 := .int .i64 ts) (v6 := .int .i64 zn) Z11.out B11.out HB13.out HG17.out HX13.out
    rw [← hW15]
    clear Z11 K11 Q11 T11 B11 m11 p4 t0 t1 t2 HX13 HB13 HG17 u0 uf0 u1 uf1 u2 uf2 u3 uf3 u4 uf4 u5 uf5 u6 uf6 hW15; have Z15 := aM z15; have D15 := aM d15; have B15 := aM b15; clear z15 d15 b15
    cases one
    ·have H := HF.out
     rw [impl_ParseDate.fin_no rfl] at H
     obtain ⟨rfl, rfl, rfl, rfl, rfl, rfl, rfl, rfl⟩ := impl_ParseDate.tup H
     clear H HF
     obtain ⟨e15z0, e15z1, e15z2, e15z3, e15z4, e15z5, e15z6⟩ := c7_ Z15.out; obtain ⟨e15f0, e15f1, e15f2, e15f3, e15f4, e15f5, e15f6⟩ := f7_ Z15.out
     go_wp2
     repeat (go_quiet (fail); try go_wp2)
     refine bodyPost_ret (results_ct rfl _ _ w.heap.size 24 #[.int .i64 0, .int .i64 0, .int .i64 0, .int .i64 0, .int .i64 0, .int .i64 0, .int .i64 0] (0, 0) _ rfl (impl_ParseDate.seven (by (with_reducible repeat (first | refine Bf ?_ _ | refine Bh ?_)); exact Z15.out)) Tryd.underlying24 rfl (by kernel_rfl)) rfl ?_
     exact ⟨by first | rfl | (simp; done), impl_ParseDate.below7 (by (repeat (first | exact B15.out | apply Bc | apply Bd))) (Nat.le_refl _)⟩
    cases two
    ·have H := HF.out
     rw [impl_ParseDate.fin_no rfl] at H
     obtain ⟨rfl, rfl, rfl, rfl, rfl, rfl, rfl, rfl⟩ := impl_ParseDate.tup H
     clear H HF
     obtain ⟨e15z0, e15z1, e15z2, e15z3, e15z4, e15z5, e15z6⟩ := c7_ Z15.out; obtain ⟨e15f0, e15f1, e15f2, e15f3, e15f4, e15f5, e15f6⟩ := f7_ Z15.out
     go_wp2
     repeat (go_quiet (fail); try go_wp2)
     refine bodyPost_ret (results_ct rfl _ _ w.heap.size 24 #[.int .i64 0, .int .i64 0, .int .i64 0, .int .i64 0, .int .i64 0, .int .i64 0, .int .i64 0] (0, 0) _ rfl (impl_ParseDate.seven (by (with_reducible repeat (first | refine Bf ?_ _ | refine Bh ?_)); exact Z15.out)) Tryd.underlying24 rfl (by kernel_rfl)) rfl ?_
     exact ⟨by first | rfl | (simp; done), impl_ParseDate.below7 (by (repeat (first | exact B15.out | apply Bc | apply Bd))) (Nat.le_refl _)⟩
    cases three
    ·have H := HF.out
     rw [impl_ParseDate.fin_no rfl] at H
     obtain ⟨rfl, rfl, rfl, rfl, rfl, rfl, rfl, rfl⟩ := impl_ParseDate.tup H
     clear H HF
     obtain ⟨e15z0, e15z1, e15z2, e15z3, e15z4, e15z5, e15z6⟩ := c7_ Z15.out; obtain ⟨e15f0, e15f1, e15f2, e15f3, e15f4, e15f5, e15f6⟩ := f7_ Z15.out
     go_wp2
     repeat (go_quiet (fail); try go_wp2)
     refine bodyPost_ret (results_ct rfl _ _ w.heap.size 24 #[.int .i64 0, .int .i64 0, .int .i64 0, .int .i64 0, .int .i64 0, .int .i64 0, .int .i64 0] (0, 0) _ rfl (impl_ParseDate.seven (by (with_reducible repeat (first | refine Bf ?_ _ | refine Bh ?_)); exact Z15.out)) Tryd.underlying24 rfl (by kernel_rfl)) rfl ?_
     exact ⟨by first | rfl | (simp; done), impl_ParseDate.below7 (by (repeat (first | exact B15.out | apply Bc | apply Bd))) (Nat.le_refl _)⟩
    cases four
    ·have H := HF.out
     rw [impl_ParseDate.fin_no rfl] at H
     obtain ⟨rfl, rfl, rfl, rfl, rfl, rfl, rfl, rfl⟩ := impl_ParseDate.tup H
     clear H HF
     obtain ⟨e15z0, e15z1, e15z2, e15z3, e15z4, e15z5, e15z6⟩ := c7_ Z15.out; obtain ⟨e15f0, e15f1, e15f2, e15f3, e15f4, e15f5, e15f6⟩ := f7_ Z15.out
     go_wp2
     repeat (go_quiet (fail); try go_wp2)
     refine bodyPost_ret (results_ct rfl _ _ w.heap.size 24 #[.int .i64 0, .int .i64 0, .int .i64 0, .int .i64 0, .int .i64 0, .int .i64 0, .int .i64 0] (0, 0) _ rfl (impl_ParseDate.seven (by (with_reducible repeat (first | refine Bf ?_ _ | refine Bh ?_)); exact Z15.out)) Tryd.underlying24 rfl (by kernel_rfl)) rfl ?_
     exact ⟨by first | rfl | (simp; done), impl_ParseDate.below7 (by (repeat (first | exact B15.out | apply Bc | apply Bd))) (Nat.le_refl _)⟩
    have G := HF.out
    unfold impl_ParseDate.fin at G
    rw [if_pos (show (true && true && true && true) = true from rfl)] at G
    obtain ⟨v, V0, G⟩ := bI.mp G
    have V := aM V0; clear V0; clear HF; have HF := aM G; clear G
    cases v
    have H := HF.out
    rw [if_neg (by decide)] at H
    obtain ⟨rfl, rfl, rfl, rfl, rfl, rfl, rfl, rfl⟩ := impl_ParseDate.tup H
    clear H HF; have BK124 := Z15; have BK130 := D15; have HB := B15; have GE124 : Aside0 (w.heap.size ≤ w.heap.size) := ⟨Nat.le_refl _⟩; have GE130 : Aside0 (w.heap.size ≤ g17) := ⟨Nat.le_of_lt l15⟩; have NB124_130 : Aside0 (w.heap.size ≠ g17) := ⟨Nat.ne_of_lt l15⟩
    clear Z15 D15 B15; have n0_ := aM (Bh BK124.out); have n1_ := aM (Bh BK130.out); have n2_ := aM (Bd HB.out); clear BK124; clear BK130; clear HB; have BK124 := n0_; have BK130 := n1_; have HB := n2_; clear n0_ n1_ n2_
    refine start_ (n := 30) (S := fun w' => w'.cell? ⟨g17, 0, none⟩ = some (.int .i64 yn) ∧ w'.cell? ⟨g17, 1, none⟩ = some (.int .i64 (wrap64 (mo + 1))) ∧ w'.cell? ⟨g17, 2, none⟩ = some (.int .i64 dn) ∧ w'.cell? ⟨g17, 3, none⟩ = some (.int .i64 th) ∧ w'.cell? ⟨g17, 4, none⟩ = some (.int .i64 tm) ∧ w'.cell? ⟨g17, 5, none⟩ = some (.int .i64 ts) ∧ w'.cell? ⟨g17, 6, none⟩ = some (.int .i64 zn)) (ds := []) #[X,X,X,X,X,X,X,X,X,X,X,X,X,X,X,X,X,X,X,X,X,X,X,X,X,X,X,X,X,X] (by kernel_rfl) rfl rfl (c7_ BK130.out) (fun hHeld => ?_); refine with_tabW impl_ParseDate.tab15 impl_ParseDate.bits15 (fun HT_ HW_ => ?_)
    generalize W15.drew = w53 at BK124 BK130 HB hHeld ⊢
    refine ord_ 30 [(0,81,1),(1,82,3),(2,83,7),(3,84,15),(4,85,31),(5,86,63),(6,87,127),(7,88,255),(8,89,511),(9,90,1023),(10,91,2047),(11,92,4095),(12,93,8191),(13,94,16383),(14,95,32767),(15,96,65535)] ?_
    iterate 16 (first | (refine st_ (v := ?_) (a' := ?_) HT_ HW_ rfl rfl (by kernel_rfl) (fun _ _ _ h => h) (Or.inl ⟨by rfl, ?_⟩) hHeld ?_ ?_; rotate_left; (·rintro w' ⟨s0, s1, s2, s3, s4, s5, s6⟩; go_simp; (with_reducible rfl)); rotate_left; (·simp only [Act.put, sA, sZ, sS, i64_w, i32_w]; rfl)) | (refine sp_ (v := ?_) (a' := ?_) HT_ rfl rfl (by kernel_rfl) (fun _ _ _ h => h) (Or.inl ⟨by rfl, ?_⟩) ?_ ?_; rotate_left; (·intro w'; go_simp; (with_reducible rfl)); rotate_left; (·simp only [Act.put, sA, sZ, sS, i64_w, i32_w]; rfl)))
    refine one_ (i := 16) (N := some 97) (mb 30 131071) rfl rfl (one_of HT_.out (by kernel_rfl)) (by decide) (fun K hK => ?_)
    refine goes_ Tryd.func18 (by kernel_rfl) rfl #[.agg #[.int .i64 yn, .int .i64 (wrap64 (mo + 1)), .int .i64 dn, .int .i64 th, .int .i64 tm, .int .i64 ts, .int .i64 zn]] (by rfl) rfl rfl (by (try simp only [mT, mC, mN]) <;> rfl) ?_
    with_reducible refine (impl_DateValid.calls k yn (wrap64 (mo + 1)) dn th tm ts zn false _ V.out).mono ?_
    rintro e w54 ⟨rfl, hb⟩
    refine ⟨_, rfl, ?_⟩
    have n0_ := aM (blk_below (by (with_reducible repeat (first | refine Bf ?_ _ | refine Bh ?_ | refine Bg ?_ _)); exact BK124.out) hb); have n1_ := aM (blk_below (by (with_reducible repeat (first | refine Bf ?_ _ | refine Bh ?_ | refine Bg ?_ _)); exact BK130.out) hb); have n2_ := aM (below_step (by repeat (with_reducible first | exact HB.out | apply Be | apply Bc | apply Bd | refine Bs ?_ GE124.out | refine Bs ?_ GE130.out)) hb); clear BK124; clear BK130; clear HB; have BK124 := n0_; have BK130 := n1_; have HB := n2_; clear n0_ n1_ n2_
    (try clear hb)
    (try clear hb2)
    (try clear hk)
    (try clear hi)
    refine hK.out _ _ (c7_ BK130.out) (fun hHeld => ?_)
    clear hK K
    refine norm_ (a' := ?_) ?_ ?_
    rotate_left
    ·show Act.put _ (some 97) _ = _
     simp only [Act.put, sA, sZ, sS, i64_w, i32_w]
     rfl
    refine ord_ 30 [(17,98,262143),(18,99,524287),(19,100,1048575),(20,101,2097151),(21,102,4194303),(22,103,8388607),(23,104,16777215),(24,105,33554431),(25,106,67108863),(26,107,134217727),(27,108,268435455),(28,109,536870911),(29,110,1073741823)] ?_
    iterate 13 (first | (refine sp_ (v := undef) (a' := ?_) HT_ rfl rfl (by kernel_rfl) (fun _ _ _ h => h) (Or.inr ⟨by rfl, rfl⟩) ?_ ?_; rotate_left; (·simp only [Act.put, sA, sZ, sS, i64_w, i32_w]; rfl)) | (refine sp_ (v := ?_) (a' := ?_) HT_ rfl rfl (by kernel_rfl) (fun _ _ _ h => h) (Or.inl ⟨by rfl, ?_⟩) ?_ ?_; rotate_left; (·intro w'; go_simp; (with_reducible rfl)); rotate_left; (·simp only [Act.put, sA, sZ, sS, i64_w, i32_w]; rfl)))
    refine done_ (done_of HT_.out (by kernel_rfl)) ?_
    obtain ⟨hcz55_0, hcz55_1, hcz55_2, hcz55_3, hcz55_4, hcz55_5, hcz55_6⟩ := c7_ BK124.out
    obtain ⟨hfz55_0, hfz55_1, hfz55_2, hfz55_3, hfz55_4, hfz55_5, hfz55_6⟩ := f7_ BK124.out
    try go_wp2
    refine bodyPost_ret (results_ct rfl _ _ w.heap.size 24 #[.int .i64 0, .int .i64 0, .int .i64 0, .int .i64 0, .int .i64 0, .int .i64 0, .int .i64 0] (0, 0) _ rfl (by (with_reducible repeat (first | refine Bf ?_ _ | refine Bh ?_ | refine Bg ?_ _)); refine p7_ (show _ = some (Obj.cells #[.int .i64 0, .int .i64 0, .int .i64 0, .int .i64 0, .int .i64 0, .int .i64 0, .int .i64 0] _ (0, 0)) from ?_); (with_reducible repeat (first | refine Bf ?_ _ | refine Bh ?_ | refine Bg ?_ _)); exact BK124.out) Tryd.underlying24 rfl (by kernel_rfl)) rfl ?_
    exact ⟨by first | rfl | (simp [errW_none, errW_some] <;> rfl) | (simp [*, errW_none, errW_some] <;> rfl), by repeat (with_reducible first | exact HB.out | apply Be | apply Bc | apply Bd | refine Bs ?_ GE124.out | refine Bs ?_ GE130.out)⟩
   ·have H := HF.out
    first | rw [if_pos rfl, if_neg (by decide)] at H | rw [if_pos trivial, if_neg (by decide)] at H
    obtain ⟨rfl, rfl, rfl, rfl, rfl, rfl, rfl, rfl⟩ := impl_ParseDate.tup H
    clear H HF; have BK124 := Z15; have BK130 := D15; have HB := B15; have GE124 : Aside0 (w.heap.size ≤ w.heap.size) := ⟨Nat.le_refl _⟩; have GE130 : Aside0 (w.heap.size ≤ g17) := ⟨Nat.le_of_lt l15⟩; have NB124_130 : Aside0 (w.heap.size ≠ g17) := ⟨Nat.ne_of_lt l15⟩
    clear Z15 D15 B15; have n0_ := aM (Bh BK124.out); have n1_ := aM (Bh BK130.out); have n2_ := aM (Bd HB.out); clear BK124; clear BK130; clear HB; have BK124 := n0_; have BK130 := n1_; have HB := n2_; clear n0_ n1_ n2_
    refine start_ (n := 30) (S := fun w' => w'.cell? ⟨g17, 0, none⟩ = some (.int .i64 yn) ∧ w'.cell? ⟨g17, 1, none⟩ = some (.int .i64 (wrap64 (mo + 1))) ∧ w'.cell? ⟨g17, 2, none⟩ = some (.int .i64 dn) ∧ w'.cell? ⟨g17, 3, none⟩ = some (.int .i64 th) ∧ w'.cell? ⟨g17, 4, none⟩ = some (.int .i64 tm) ∧ w'.cell? ⟨g17, 5, none⟩ = some (.int .i64 ts) ∧ w'.cell? ⟨g17, 6, none⟩ = some (.int .i64 zn)) (ds := []) #[X,X,X,X,X,X,X,X,X,X,X,X,X,X,X,X,X,X,X,X,X,X,X,X,X,X,X,X,X,X] (by kernel_rfl) rfl rfl (c7_ BK130.out) (fun hHeld => ?_); refine with_tabW impl_ParseDate.tab15 impl_ParseDate.bits15 (fun HT_ HW_ => ?_)
    generalize W15.drew = w44 at BK124 BK130 HB hHeld ⊢
    refine ord_ 30 [(0,81,1),(1,82,3),(2,83,7),(3,84,15),(4,85,31),(5,86,63),(6,87,127),(7,88,255),(8,89,511),(9,90,1023),(10,91,2047),(11,92,4095),(12,93,8191),(13,94,16383),(14,95,32767),(15,96,65535)] ?_
    iterate 16 (first | (refine st_ (v := ?_) (a' := ?_) HT_ HW_ rfl rfl (by kernel_rfl) (fun _ _ _ h => h) (Or.inl ⟨by rfl, ?_⟩) hHeld ?_ ?_; rotate_left; (·rintro w' ⟨s0, s1, s2, s3, s4, s5, s6⟩; go_simp; (with_reducible rfl)); rotate_left; (·simp only [Act.put, sA, sZ, sS, i64_w, i32_w]; rfl)) | (refine sp_ (v := ?_) (a' := ?_) HT_ rfl rfl (by kernel_rfl) (fun _ _ _ h => h) (Or.inl ⟨by rfl, ?_⟩) ?_ ?_; rotate_left; (·intro w'; go_simp; (with_reducible rfl)); rotate_left; (·simp only [Act.put, sA, sZ, sS, i64_w, i32_w]; rfl)))
    refine one_ (i := 16) (N := some 97) (mb 30 131071) rfl rfl (one_of HT_.out (by kernel_rfl)) (by decide) (fun K hK => ?_)
    refine goes_ Tryd.func18 (by kernel_rfl) rfl #[.agg #[.int .i64 yn, .int .i64 (wrap64 (mo + 1)), .int .i64 dn, .int .i64 th, .int .i64 tm, .int .i64 ts, .int .i64 zn]] (by rfl) rfl rfl (by (try simp only [mT, mC, mN]) <;> rfl) ?_
    with_reducible refine (impl_DateValid.calls k yn (wrap64 (mo + 1)) dn th tm ts zn true _ V.out).mono ?_
    rintro e w45 ⟨rfl, hb⟩
    refine ⟨_, rfl, ?_⟩
    have n0_ := aM (blk_below (by (with_reducible repeat (first | refine Bf ?_ _ | refine Bh ?_ | refine Bg ?_ _)); exact BK124.out) hb); have n1_ := aM (blk_below (by (with_reducible repeat (first | refine Bf ?_ _ | refine Bh ?_ | refine Bg ?_ _)); exact BK130.out) hb); have n2_ := aM (below_step (by repeat (with_reducible first | exact HB.out | apply Be | apply Bc | apply Bd | refine Bs ?_ GE124.out | refine Bs ?_ GE130.out)) hb); clear BK124; clear BK130; clear HB; have BK124 := n0_; have BK130 := n1_; have HB := n2_; clear n0_ n1_ n2_
    (try clear hb)
    (try clear hb2)
    (try clear hk)
    (try clear hi)
    refine hK.out _ _ (c7_ BK130.out) (fun hHeld => ?_)
    clear hK K
    refine norm_ (a' := ?_) ?_ ?_
    rotate_left
    ·show Act.put _ (some 97) _ = _
     simp only [Act.put, sA, sZ, sS, i64_w, i32_w]
     rfl
    refine ord_ 30 [(17,98,262143),(18,99,524287),(19,100,1048575),(20,101,2097151),(21,102,4194303),(22,103,8388607),(23,104,16777215),(24,105,33554431),(25,106,67108863),(26,107,134217727),(27,108,268435455),(28,109,536870911),(29,110,1073741823)] ?_
    iterate 13 (first | (refine sp_ (v := undef) (a' := ?_) HT_ rfl rfl (by kernel_rfl) (fun _ _ _ h => h) (Or.inr ⟨by rfl, rfl⟩) ?_ ?_; rotate_left; (·simp only [Act.put, sA, sZ, sS, i64_w, i32_w]; rfl)) | (refine sp_ (v := ?_) (a' := ?_) HT_ rfl rfl (by kernel_rfl) (fun _ _ _ h => h) (Or.inl ⟨by rfl, ?_⟩) ?_ ?_; rotate_left; (·intro w'; go_simp; (with_reducible rfl)); rotate_left; (·simp only [Act.put, sA, sZ, sS, i64_w, i32_w]; rfl)))
    refine done_ (done_of HT_.out (by kernel_rfl)) ?_
    obtain ⟨hcz46_0, hcz46_1, hcz46_2, hcz46_3, hcz46_4, hcz46_5, hcz46_6⟩ := c7_ BK130.out
    obtain ⟨hfz46_0, hfz46_1, hfz46_2, hfz46_3, hfz46_4, hfz46_5, hfz46_6⟩ := f7_ BK130.out
    obtain ⟨hcz47_0, hcz47_1, hcz47_2, hcz47_3, hcz47_4, hcz47_5, hcz47_6⟩ := c7_ BK124.out
    obtain ⟨hfz47_0, hfz47_1, hfz47_2, hfz47_3, hfz47_4, hfz47_5, hfz47_6⟩ := f7_ BK124.out
    try go_wp2
    refine bodyPost_ret (results_ct rfl _ _ w.heap.size 24 #[.int .i64 yn, .int .i64 (wrap64 (mo + 1)), .int .i64 dn, .int .i64 th, .int .i64 tm, .int .i64 ts, .int .i64 zn] (0, 0) _ rfl (by (with_reducible repeat (first | refine Bf ?_ _ | refine Bh ?_ | refine Bg ?_ _)); refine p7_ (show _ = some (Obj.cells #[.int .i64 0, .int .i64 0, .int .i64 0, .int .i64 0, .int .i64 0, .int .i64 0, .int .i64 0] _ (0, 0)) from ?_); (with_reducible repeat (first | refine Bf ?_ _ | refine Bh ?_ | refine Bg ?_ _)); exact BK124.out) Tryd.underlying24 rfl (by kernel_rfl)) rfl ?_
    exact ⟨by first | rfl | (simp [errW_none, errW_some] <;> rfl) | (simp [*, errW_none, errW_some] <;> rfl), by repeat (with_reducible first | exact HB.out | apply Be | apply Bc | apply Bd | refine Bs ?_ GE124.out | refine Bs ?_ GE130.out)⟩
   have G := HF.out
   first | rw [if_pos rfl, if_pos rfl] at G | rw [if_pos trivial, if_pos rfl] at G | rw [if_pos trivial, if_pos trivial] at G
   obtain ⟨tr, T0, G⟩ := bI.mp G
   obtain ⟨wk, T1, G⟩ := bI.mp G
   obtain ⟨b, T2, G⟩ := bI.mp G
   have TR := aM T0; have WK := aM T1; have ST := aM T2; clear T0 T1 T2; clear HF; have HF := aM G; clear G
   cases b with
   | false =>
    have H := HF.out
    rw [if_neg (by decide)] at H
    obtain ⟨rfl, rfl, rfl, rfl, rfl, rfl, rfl, rfl⟩ := impl_ParseDate.tup H
    clear H HF; have BK124 := Z15; have BK130 := D15; have HB := B15; have GE124 : Aside0 (w.heap.size ≤ w.heap.size) := ⟨Nat.le_refl _⟩; have GE130 : Aside0 (w.heap.size ≤ g17) := ⟨Nat.le_of_lt l15⟩; have NB124_130 : Aside0 (w.heap.size ≠ g17) := ⟨Nat.ne_of_lt l15⟩
    clear Z15 D15 B15; have n0_ := aM (Bh BK124.out); have n1_ := aM (Bh BK130.out); have n2_ := aM (Bd HB.out); clear BK124; clear BK130; clear HB; have BK124 := n0_; have BK130 := n1_; have HB := n2_; clear n0_ n1_ n2_
    refine start_ (n := 30) (S := fun w' => w'.cell? ⟨g17, 0, none⟩ = some (.int .i64 yn) ∧ w'.cell? ⟨g17, 1, none⟩ = some (.int .i64 (wrap64 (mo + 1))) ∧ w'.cell? ⟨g17, 2, none⟩ = some (.int .i64 dn) ∧ w'.cell? ⟨g17, 3, none⟩ = some (.int .i64 th) ∧ w'.cell? ⟨g17, 4, none⟩ = some (.int .i64 tm) ∧ w'.cell? ⟨g17, 5, none⟩ = some (.int .i64 ts) ∧ w'.cell? ⟨g17, 6, none⟩ = some (.int .i64 zn)) (ds := []) #[X,X,X,X,X,X,X,X,X,X,X,X,X,X,X,X,X,X,X,X,X,X,X,X,X,X,X,X,X,X] (by kernel_rfl) rfl rfl (c7_ BK130.out) (fun hHeld => ?_); refine with_tabW impl_ParseDate.tab15 impl_ParseDate.bits15 (fun HT_ HW_ => ?_)
    generalize W15.drew = w34 at BK124 BK130 HB hHeld ⊢
    refine ord_ 30 [(0,81,1),(1,82,3),(2,83,7),(3,84,15),(4,85,31),(5,86,63),(6,87,127),(7,88,255),(8,89,511),(9,90,1023),(10,91,2047),(11,92,4095),(12,93,8191),(13,94,16383),(14,95,32767),(15,96,65535)] ?_
    iterate 16 (first | (refine st_ (v := ?_) (a' := ?_) HT_ HW_ rfl rfl (by kernel_rfl) (fun _ _ _ h => h) (Or.inl ⟨by rfl, ?_⟩) hHeld ?_ ?_; rotate_left; (·rintro w' ⟨s0, s1, s2, s3, s4, s5, s6⟩; go_simp; (with_reducible rfl)); rotate_left; (·simp only [Act.put, sA, sZ, sS, i64_w, i32_w]; rfl)) | (refine sp_ (v := ?_) (a' := ?_) HT_ rfl rfl (by kernel_rfl) (fun _ _ _ h => h) (Or.inl ⟨by rfl, ?_⟩) ?_ ?_; rotate_left; (·intro w'; go_simp; (with_reducible rfl)); rotate_left; (·simp only [Act.put, sA, sZ, sS, i64_w, i32_w]; rfl)))
    refine one_ (i := 16) (N := some 97) (mb 30 131071) rfl rfl (one_of HT_.out (by kernel_rfl)) (by decide) (fun K hK => ?_)
    refine goes_ Tryd.func18 (by kernel_rfl) rfl #[.agg #[.int .i64 yn, .int .i64 (wrap64 (mo + 1)), .int .i64 dn, .int .i64 th, .int .i64 tm, .int .i64 ts, .int .i64 zn]] (by rfl) rfl rfl (by (try simp only [mT, mC, mN]) <;> rfl) ?_
    with_reducible refine (impl_DateValid.calls k yn (wrap64 (mo + 1)) dn th tm ts zn true _ V.out).mono ?_
    rintro e w35 ⟨rfl, hb⟩
    refine ⟨_, rfl, ?_⟩
    have n0_ := aM (blk_below (by (with_reducible repeat (first | refine Bf ?_ _ | refine Bh ?_ | refine Bg ?_ _)); exact BK124.out) hb); have n1_ := aM (blk_below (by (with_reducible repeat (first | refine Bf ?_ _ | refine Bh ?_ | refine Bg ?_ _)); exact BK130.out) hb); have n2_ := aM (below_step (by repeat (with_reducible first | exact HB.out | apply Be | apply Bc | apply Bd | refine Bs ?_ GE124.out | refine Bs ?_ GE130.out)) hb); clear BK124; clear BK130; clear HB; have BK124 := n0_; have BK130 := n1_; have HB := n2_; clear n0_ n1_ n2_
    (try clear hb)
    (try clear hb2)
    (try clear hk)
    (try clear hi)
    refine hK.out _ _ (c7_ BK130.out) (fun hHeld => ?_)
    clear hK K
    refine norm_ (a' := ?_) ?_ ?_
    rotate_left
    ·show Act.put _ (some 97) _ = _
     simp only [Act.put, sA, sZ, sS, i64_w, i32_w]
     rfl
    refine ord_ 30 [(17,98,262143),(18,99,524287),(19,100,1048575),(20,101,2097151),(21,102,4194303),(22,103,8388607),(24,105,25165823)] ?_
    iterate 7 (first | (refine st_ (v := ?_) (a' := ?_) HT_ HW_ rfl rfl (by kernel_rfl) (fun _ _ _ h => h) (Or.inl ⟨by rfl, ?_⟩) hHeld ?_ ?_; rotate_left; (·rintro w' ⟨s0, s1, s2, s3, s4, s5, s6⟩; go_simp; (with_reducible rfl)); rotate_left; (·simp only [Act.put, sA, sZ, sS, i64_w, i32_w]; rfl)) | (refine sp_ (v := ?_) (a' := ?_) HT_ rfl rfl (by kernel_rfl) (fun _ _ _ h => h) (Or.inl ⟨by rfl, ?_⟩) ?_ ?_; rotate_left; (·intro w'; go_simp; (with_reducible rfl)); rotate_left; (·simp only [Act.put, sA, sZ, sS, i64_w, i32_w]; rfl)))
    refine one_ (i := 23) (N := some 104) (mb 30 33554431) rfl rfl (one_of HT_.out (by kernel_rfl)) (by decide) (fun K hK => ?_)
    refine goes_ Tryd.func38 (by kernel_rfl) rfl #[.string wd, .string (⟨#[32]⟩ : ByteArray)] (by rfl) rfl rfl (by (try simp only [mT, mC, mN]) <;> rfl) ?_
    with_reducible refine (strings_Trim.calls wd (⟨#[32]⟩ : ByteArray) tr _ TR.out).mono ?_
    rintro e w' ⟨rfl, ⟨nd, rfl⟩⟩
    refine ⟨_, rfl, ?_⟩
    refine hK.out _ _ (c7_ BK130.out) (fun hHeld => ?_)
    clear hK K
    refine norm_ (a' := ?_) ?_ ?_
    rotate_left
    ·show Act.put _ (some 104) _ = _
     simp only [Act.put, sA, sZ, sS, i64_w, i32_w]
     rfl
    refine one_ (i := 25) (N := some 106) (mb 30 67108863) rfl rfl (one_of HT_.out (by kernel_rfl)) (by decide) (fun K hK => ?_)
    refine goes_ Tryd.func14 (by kernel_rfl) rfl #[.agg #[.int .i64 yn, .int .i64 (wrap64 (mo + 1)), .int .i64 dn, .int .i64 th, .int .i64 tm, .int .i64 ts, .int .i64 zn]] (by rfl) rfl rfl (by (try simp only [mT, mC, mN]) <;> rfl) ?_
    with_reducible refine (impl_WeekdayOf.calls k yn (wrap64 (mo + 1)) dn th tm ts zn wk _ WK.out).mono ?_
    rintro e w36 ⟨rfl, hb⟩
    refine ⟨_, rfl, ?_⟩
    have n0_ := aM (blk_below (by (with_reducible repeat (first | refine Bf ?_ _ | refine Bh ?_ | refine Bg ?_ _)); exact BK124.out) hb); have n1_ := aM (blk_below (by (with_reducible repeat (first | refine Bf ?_ _ | refine Bh ?_ | refine Bg ?_ _)); exact BK130.out) hb); have n2_ := aM (below_step (by repeat (with_reducible first | exact HB.out | apply Be | apply Bc | apply Bd | refine Bs ?_ GE124.out | refine Bs ?_ GE130.out)) hb); clear BK124; clear BK130; clear HB; have BK124 := n0_; have BK130 := n1_; have HB := n2_; clear n0_ n1_ n2_
    (try clear hb)
    (try clear hb2)
    (try clear hk)
    (try clear hi)
    refine hK.out _ _ (c7_ BK130.out) (fun hHeld => ?_)
    clear hK K
    refine norm_ (a' := ?_) ?_ ?_
    rotate_left
    ·show Act.put _ (some 106) _ = _
     simp only [Act.put, sA, sZ, sS, i64_w, i32_w]
     rfl
    refine one_ (i := 26) (N := some 107) (mb 30 134217727) rfl rfl (one_of HT_.out (by kernel_rfl)) (by decide) (fun K hK => ?_)
    refine goes_ Tryd.func35 (by kernel_rfl) rfl #[.string tr, .string wk] (by rfl) rfl rfl (by (try simp only [mT, mC, mN]) <;> rfl) ?_
    with_reducible refine (impl_SameText.calls tr wk false _ ST.out).mono ?_
    rintro e w37 ⟨rfl, hb⟩
    refine ⟨_, rfl, ?_⟩
    have n0_ := aM (blk_below (by (with_reducible repeat (first | refine Bf ?_ _ | refine Bh ?_ | refine Bg ?_ _)); exact BK124.out) hb); have n1_ := aM (blk_below (by (with_reducible repeat (first | refine Bf ?_ _ | refine Bh ?_ | refine Bg ?_ _)); exact BK130.out) hb); have n2_ := aM (below_step (by repeat (with_reducible first | exact HB.out | apply Be | apply Bc | apply Bd | refine Bs ?_ GE124.out | refine Bs ?_ GE130.out)) hb); clear BK124; clear BK130; clear HB; have BK124 := n0_; have BK130 := n1_; have HB := n2_; clear n0_ n1_ n2_
    (try clear hb)
    (try clear hb2)
    (try clear hk)
    (try clear hi)
    refine hK.out _ _ (c7_ BK130.out) (fun hHeld => ?_)
    clear hK K
    refine norm_ (a' := ?_) ?_ ?_
    rotate_left
    ·show Act.put _ (some 107) _ = _
     simp only [Act.put, sA, sZ, sS, i64_w, i32_w]
     rfl
    refine ord_ 30 [(27,108,268435455),(28,109,536870911),(29,110,1073741823)] ?_
    iterate 3 (refine sp_ (v := ?_) (a' := ?_) HT_ rfl rfl (by kernel_rfl) (fun _ _ _ h => h) (Or.inl ⟨by rfl, ?_⟩) ?_ ?_; rotate_left; (·intro w'; go_simp; (with_reducible rfl)); rotate_left; (·simp only [Act.put, sA, sZ, sS, i64_w, i32_w]; rfl))
    refine done_ (done_of HT_.out (by kernel_rfl)) ?_
    obtain ⟨hcz38_0, hcz38_1, hcz38_2, hcz38_3, hcz38_4, hcz38_5, hcz38_6⟩ := c7_ BK124.out
    obtain ⟨hfz38_0, hfz38_1, hfz38_2, hfz38_3, hfz38_4, hfz38_5, hfz38_6⟩ := f7_ BK124.out
    try go_wp2
    refine bodyPost_ret (results_ct rfl _ _ w.heap.size 24 #[.int .i64 0, .int .i64 0, .int .i64 0, .int .i64 0, .int .i64 0, .int .i64 0, .int .i64 0] (0, 0) _ rfl (by (with_reducible repeat (first | refine Bf ?_ _ | refine Bh ?_ | refine Bg ?_ _)); refine p7_ (show _ = some (Obj.cells #[.int .i64 0, .int .i64 0, .int .i64 0, .int .i64 0, .int .i64 0, .int .i64 0, .int .i64 0] _ (0, 0)) from ?_); (with_reducible repeat (first | refine Bf ?_ _ | refine Bh ?_ | refine Bg ?_ _)); exact BK124.out) Tryd.underlying24 rfl (by kernel_rfl)) rfl ?_
    exact ⟨by first | rfl | (simp [errW_none, errW_some] <;> rfl) | (simp [*, errW_none, errW_some] <;> rfl), by repeat (with_reducible first | exact HB.out | apply Be | apply Bc | apply Bd | refine Bs ?_ GE124.out | refine Bs ?_ GE130.out)⟩
   | true =>
    have H := HF.out
    rw [if_pos rfl] at H
    obtain ⟨rfl, rfl, rfl, rfl, rfl, rfl, rfl, rfl⟩ := impl_ParseDate.tup H
    clear H HF; have BK124 := Z15; have BK130 := D15; have HB := B15; have GE124 : Aside0 (w.heap.size ≤ w.heap.size) := ⟨Nat.le_refl _⟩; have GE130 : Aside0 (w.heap.size ≤ g17) := ⟨Nat.le_of_lt l15⟩; have NB124_130 : Aside0 (w.heap.size ≠ g17) := ⟨Nat.ne_of_lt l15⟩
    clear Z15 D15 B15; have n0_ := aM (Bh BK124.out); have n1_ := aM (Bh BK130.out); have n2_ := aM (Bd HB.out); clear BK124; clear BK130; clear HB; have BK124 := n0_; have BK130 := n1_; have HB := n2_; clear n0_ n1_ n2_
    refine start_ (n := 30) (S := fun w' => w'.cell? ⟨g17, 0, none⟩ = some (.int .i64 yn) ∧ w'.cell? ⟨g17, 1, none⟩ = some (.int .i64 (wrap64 (mo + 1))) ∧ w'.cell? ⟨g17, 2, none⟩ = some (.int .i64 dn) ∧ w'.cell? ⟨g17, 3, none⟩ = some (.int .i64 th) ∧ w'.cell? ⟨g17, 4, none⟩ = some (.int .i64 tm) ∧ w'.cell? ⟨g17, 5, none⟩ = some (.int .i64 ts) ∧ w'.cell? ⟨g17, 6, none⟩ = some (.int .i64 zn)) (ds := []) #[X,X,X,X,X,X,X,X,X,X,X,X,X,X,X,X,X,X,X,X,X,X,X,X,X,X,X,X,X,X] (by kernel_rfl) rfl rfl (c7_ BK130.out) (fun hHeld => ?_); refine with_tabW impl_ParseDate.tab15 impl_ParseDate.bits15 (fun HT_ HW_ => ?_)
    generalize W15.drew = w23 at BK124 BK130 HB hHeld ⊢
    refine ord_ 30 [(0,81,1),(1,82,3),(2,83,7),(3,84,15),(4,85,31),(5,86,63),(6,87,127),(7,88,255),(8,89,511),(9,90,1023),(10,91,2047),(11,92,4095),(12,93,8191),(13,94,16383),(14,95,32767),(15,96,65535)] ?_
    iterate 16 (first | (refine st_ (v := ?_) (a' := ?_) HT_ HW_ rfl rfl (by kernel_rfl) (fun _ _ _ h => h) (Or.inl ⟨by rfl, ?_⟩) hHeld ?_ ?_; rotate_left; (·rintro w' ⟨s0, s1, s2, s3, s4, s5, s6⟩; go_simp; (with_reducible rfl)); rotate_left; (·simp only [Act.put, sA, sZ, sS, i64_w, i32_w]; rfl)) | (refine sp_ (v := ?_) (a' := ?_) HT_ rfl rfl (by kernel_rfl) (fun _ _ _ h => h) (Or.inl ⟨by rfl, ?_⟩) ?_ ?_; rotate_left; (·intro w'; go_simp; (with_reducible rfl)); rotate_left; (·simp only [Act.put, sA, sZ, sS, i64_w, i32_w]; rfl)))
    refine one_ (i := 16) (N := some 97) (mb 30 131071) rfl rfl (one_of HT_.out (by kernel_rfl)) (by decide) (fun K hK => ?_)
    refine goes_ Tryd.func18 (by kernel_rfl) rfl #[.agg #[.int .i64 yn, .int .i64 (wrap64 (mo + 1)), .int .i64 dn, .int .i64 th, .int .i64 tm, .int .i64 ts, .int .i64 zn]] (by rfl) rfl rfl (by (try simp only [mT, mC, mN]) <;> rfl) ?_
    with_reducible refine (impl_DateValid.calls k yn (wrap64 (mo + 1)) dn th tm ts zn true _ V.out).mono ?_
    rintro e w24 ⟨rfl, hb⟩
    refine ⟨_, rfl, ?_⟩
    have n0_ := aM (blk_below (by (with_reducible repeat (first | refine Bf ?_ _ | refine Bh ?_ | refine Bg ?_ _)); exact BK124.out) hb); have n1_ := aM (blk_below (by (with_reducible repeat (first | refine Bf ?_ _ | refine Bh ?_ | refine Bg ?_ _)); exact BK130.out) hb); have n2_ := aM (below_step (by repeat (with_reducible first | exact HB.out | apply Be | apply Bc | apply Bd | refine Bs ?_ GE124.out | refine Bs ?_ GE130.out)) hb); clear BK124; clear BK130; clear HB; have BK124 := n0_; have BK130 := n1_; have HB := n2_; clear n0_ n1_ n2_
    (try clear hb)
    (try clear hb2)
    (try clear hk)
    (try clear hi)
    refine hK.out _ _ (c7_ BK130.out) (fun hHeld => ?_)
    clear hK K
    refine norm_ (a' := ?_) ?_ ?_
    rotate_left
    ·show Act.put _ (some 97) _ = _
     simp only [Act.put, sA, sZ, sS, i64_w, i32_w]
     rfl
    refine ord_ 30 [(17,98,262143),(18,99,524287),(19,100,1048575),(20,101,2097151),(21,102,4194303),(22,103,8388607),(24,105,25165823)] ?_
    iterate 7 (first | (refine st_ (v := ?_) (a' := ?_) HT_ HW_ rfl rfl (by kernel_rfl) (fun _ _ _ h => h) (Or.inl ⟨by rfl, ?_⟩) hHeld ?_ ?_; rotate_left; (·rintro w' ⟨s0, s1, s2, s3, s4, s5, s6⟩; go_simp; (with_reducible rfl)); rotate_left; (·simp only [Act.put, sA, sZ, sS, i64_w, i32_w]; rfl)) | (refine sp_ (v := ?_) (a' := ?_) HT_ rfl rfl (by kernel_rfl) (fun _ _ _ h => h) (Or.inl ⟨by rfl, ?_⟩) ?_ ?_; rotate_left; (·intro w'; go_simp; (with_reducible rfl)); rotate_left; (·simp only [Act.put, sA, sZ, sS, i64_w, i32_w]; rfl)))
    refine one_ (i := 23) (N := some 104) (mb 30 33554431) rfl rfl (one_of HT_.out (by kernel_rfl)) (by decide) (fun K hK => ?_)
    refine goes_ Tryd.func38 (by kernel_rfl) rfl #[.string wd, .string (⟨#[32]⟩ : ByteArray)] (by rfl) rfl rfl (by (try simp only [mT, mC, mN]) <;> rfl) ?_
    with_reducible refine (strings_Trim.calls wd (⟨#[32]⟩ : ByteArray) tr _ TR.out).mono ?_
    rintro e w' ⟨rfl, ⟨nd, rfl⟩⟩
    refine ⟨_, rfl, ?_⟩
    refine hK.out _ _ (c7_ BK130.out) (fun hHeld => ?_)
    clear hK K
    refine norm_ (a' := ?_) ?_ ?_
    rotate_left
    ·show Act.put _ (some 104) _ = _
     simp only [Act.put, sA, sZ, sS, i64_w, i32_w]
     rfl
    refine one_ (i := 25) (N := some 106) (mb 30 67108863) rfl rfl (one_of HT_.out (by kernel_rfl)) (by decide) (fun K hK => ?_)
    refine goes_ Tryd.func14 (by kernel_rfl) rfl #[.agg #[.int .i64 yn, .int .i64 (wrap64 (mo + 1)), .int .i64 dn, .int .i64 th, .int .i64 tm, .int .i64 ts, .int .i64 zn]] (by rfl) rfl rfl (by (try simp only [mT, mC, mN]) <;> rfl) ?_
    with_reducible refine (impl_WeekdayOf.calls k yn (wrap64 (mo + 1)) dn th tm ts zn wk _ WK.out).mono ?_
    rintro e w25 ⟨rfl, hb⟩
    refine ⟨_, rfl, ?_⟩
    have n0_ := aM (blk_below (by (with_reducible repeat (first | refine Bf ?_ _ | refine Bh ?_ | refine Bg ?_ _)); exact BK124.out) hb); have n1_ := aM (blk_below (by (with_reducible repeat (first | refine Bf ?_ _ | refine Bh ?_ | refine Bg ?_ _)); exact BK130.out) hb); have n2_ := aM (below_step (by repeat (with_reducible first | exact HB.out | apply Be | apply Bc | apply Bd | refine Bs ?_ GE124.out | refine Bs ?_ GE130.out)) hb); clear BK124; clear BK130; clear HB; have BK124 := n0_; have BK130 := n1_; have HB := n2_; clear n0_ n1_ n2_
    (try clear hb)
    (try clear hb2)
    (try clear hk)
    (try clear hi)
    refine hK.out _ _ (c7_ BK130.out) (fun hHeld => ?_)
    clear hK K
    refine norm_ (a' := ?_) ?_ ?_
    rotate_left
    ·show Act.put _ (some 106) _ = _
     simp only [Act.put, sA, sZ, sS, i64_w, i32_w]
     rfl
    refine one_ (i := 26) (N := some 107) (mb 30 134217727) rfl rfl (one_of HT_.out (by kernel_rfl)) (by decide) (fun K hK => ?_)
    refine goes_ Tryd.func35 (by kernel_rfl) rfl #[.string tr, .string wk] (by rfl) rfl rfl (by (try simp only [mT, mC, mN]) <;> rfl) ?_
    with_reducible refine (impl_SameText.calls tr wk true _ ST.out).mono ?_
    rintro e w26 ⟨rfl, hb⟩
    refine ⟨_, rfl, ?_⟩
    have n0_ := aM (blk_below (by (with_reducible repeat (first | refine Bf ?_ _ | refine Bh ?_ | refine Bg ?_ _)); exact BK124.out) hb); have n1_ := aM (blk_below (by (with_reducible repeat (first | refine Bf ?_ _ | refine Bh ?_ | refine Bg ?_ _)); exact BK130.out) hb); have n2_ := aM (below_step (by repeat (with_reducible first | exact HB.out | apply Be | apply Bc | apply Bd | refine Bs ?_ GE124.out | refine Bs ?_ GE130.out)) hb); clear BK124; clear BK130; clear HB; have BK124 := n0_; have BK130 := n1_; have HB := n2_; clear n0_ n1_ n2_
    (try clear hb)
    (try clear hb2)
    (try clear hk)
    (try clear hi)
    refine hK.out _ _ (c7_ BK130.out) (fun hHeld => ?_)
    clear hK K
    refine norm_ (a' := ?_) ?_ ?_
    rotate_left
    ·show Act.put _ (some 107) _ = _
     simp only [Act.put, sA, sZ, sS, i64_w, i32_w]
     rfl
    refine ord_ 30 [(27,108,268435455),(28,109,536870911),(29,110,1073741823)] ?_
    iterate 3 (refine sp_ (v := ?_) (a' := ?_) HT_ rfl rfl (by kernel_rfl) (fun _ _ _ h => h) (Or.inl ⟨by rfl, ?_⟩) ?_ ?_; rotate_left; (·intro w'; go_simp; (with_reducible rfl)); rotate_left; (·simp only [Act.put, sA, sZ, sS, i64_w, i32_w]; rfl))
    refine done_ (done_of HT_.out (by kernel_rfl)) ?_
    obtain ⟨hcz27_0, hcz27_1, hcz27_2, hcz27_3, hcz27_4, hcz27_5, hcz27_6⟩ := c7_ BK130.out
    obtain ⟨hfz27_0, hfz27_1, hfz27_2, hfz27_3, hfz27_4, hfz27_5, hfz27_6⟩ := f7_ BK130.out
    obtain ⟨hcz28_0, hcz28_1, hcz28_2, hcz28_3, hcz28_4, hcz28_5, hcz28_6⟩ := c7_ BK124.out
    obtain ⟨hfz28_0, hfz28_1, hfz28_2, hfz28_3, hfz28_4, hfz28_5, hfz28_6⟩ := f7_ BK124.out
    try go_wp2
    refine bodyPost_ret (results_ct rfl _ _ w.heap.size 24 #[.int .i64 yn, .int .i64 (wrap64 (mo + 1)), .int .i64 dn, .int .i64 th, .int .i64 tm, .int .i64 ts, .int .i64 zn] (0, 0) _ rfl (by (with_reducible repeat (first | refine Bf ?_ _ | refine Bh ?_ | refine Bg ?_ _)); refine p7_ (show _ = some (Obj.cells #[.int .i64 0, .int .i64 0, .int .i64 0, .int .i64 0, .int .i64 0, .int .i64 0, .int .i64 0] _ (0, 0)) from ?_); (with_reducible repeat (first | refine Bf ?_ _ | refine Bh ?_ | refine Bg ?_ _)); exact BK124.out) Tryd.underlying24 rfl (by kernel_rfl)) rfl ?_
    exact ⟨by first | rfl | (simp [errW_none, errW_some] <;> rfl) | (simp [*, errW_none, errW_some] <;> rfl), by repeat (with_reducible first | exact HB.out | apply Be | apply Bc | apply Bd | refine Bs ?_ GE124.out | refine Bs ?_ GE130.out)⟩
  rw [if_neg hps] at H
  cases H
end Go.Proofs.YtafpbechcjcdbaaDoor.PFnDateText
