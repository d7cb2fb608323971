/- The law FnDateText holds of the printed functions: dates are read back. No conditions. -/
import Derived.Test.YtafpbechcjcdbaaDoorPFnDateTextx19
import Derived.Test.YtafpbechcjcdbaaDoorVFnDateTextMBase
import Derived.Test.YtafpbechcjcdbaaDoorVFnDateTextMDate
import Derived.Test.YtafpbechcjcdbaaDoorVFnDateTextMStr
import Derived.Test.YtafpbechcjcdbaaDoorVFnDateTextMQuot
import Derived.Test.YtafpbechcjcdbaaDoorVFnDateTextMParts
import Derived.Test.YtafpbechcjcdbaaDoorVFnDateTextMFmt
import Derived.Test.YtafpbechcjcdbaaDoorVFnDateTextMParse
namespace Go.Proofs.YtafpbechcjcdbaaDoor.PLFnDateText
open Go.RowKit Go.Proofs.YtafpbechcjcdbaaDoor.PFnDateText Go.Proofs.YtafpbechcjcdbaaDoorW.PrintWords Go.Proofs.YtafpbechcjcdbaaDoorW.PrintLast Go.Proofs.YtafpbechcjcdbaaDoorW.PrintMore Go.Proofs.YtafpbechcjcdbaaDoor.M
theorem open_ex (l : List Int) (h : Bytes l) : ∃ b, spec_l13Open.f l = some (b, 0) ∧ Bytes b ∧ b.length ≤ 2000 := by
 unfold spec_l13Open.f
 by_cases e : (l.length : Int) > 2000
 ·rw [if_pos e, if_pos (by omega)]
  exact ⟨_, rfl, bytes_take h _, by rw [List.length_take]; omega⟩
 ·rw [if_neg e]
  exact ⟨_, rfl, h, by omega⟩
theorem pick_ev (b : List Int) (p n : Int) (hb : Bytes b) (hl : b.length ≤ 2000) (hp : 0 ≤ p) (hp1 : p ≤ 1000000) (hn : 1 ≤ n) :
  ∃ r, 0 ≤ r ∧ r < n ∧ Ev (fun k => spec_l13Rd_pick.f k b p n) (r, p + 1) := by
 have w1 : wrap64 (p + 1) = p + 1 := w64 (by omega) (by omega)
 have w2 : wrap64 (p + 1 - 1) = p := by
  rw [w64 (by omega) (by omega)]
  omega
 by_cases e0 : (b.length : Int) = 0
 ·refine ⟨0, by omega, by omega, ?_⟩
  simp only [spec_l13Rd_pick.f]
  refine ev_neg (by omega) ?_
  rw [w1]
  refine Ev.step (fun k => by rw [spec_l13Rd_pick.j0]) ?_
  refine ev_pos (by simp [e0]) ?_
  exact Ev.now _
 ·have f0 : ((b.length : Int) == 0) = false := beq_eq_false_iff_ne.mpr e0
  by_cases e1 : p < (b.length : Int)
  ·obtain ⟨r0, r1⟩ := rd_bytes hb p
   have w3 : wrap64 (rd b p) = rd b p := w64 (by omega) (by omega)
   refine ⟨rd b p % n, Int.emod_nonneg _ (by omega), Int.emod_lt_of_pos _ (by omega), ?_⟩
   simp only [spec_l13Rd_pick.f]
   refine ev_neg (by omega) ?_
   rw [w1, f0]
   refine Ev.step (fun k => by rw [spec_l13Rd_pick.j0]) ?_
   simp only [w2, w3]
   refine ev_neg (by simp) (ev_pos e1 (ev_pos hp (ev_neg (by omega) ?_)))
   rw [Int.tmod_eq_emod_of_nonneg r0]
   exact Ev.now _
  ·have hL : (0 : Int) < (b.length : Int) := by omega
   have t1 : Int.tmod p (b.length : Int) = p % (b.length : Int) := Int.tmod_eq_emod_of_nonneg hp
   have w4 : wrap64 (p * 7) = p * 7 := w64 (by omega) (by omega)
   have w5 : wrap64 (p * 7 + 3) = p * 7 + 3 := w64 (by omega) (by omega)
   have t2 : Int.tmod (p * 7 + 3) (b.length : Int) = (p * 7 + 3) % (b.length : Int) := Int.tmod_eq_emod_of_nonneg (by omega)
   have a0 := Int.emod_nonneg p (b := (b.length : Int)) (by omega)
   have a1 := Int.emod_lt_of_pos p hL
   have c0 := Int.emod_nonneg (p * 7 + 3) (b := (b.length : Int)) (by omega)
   have c1 := Int.emod_lt_of_pos (p * 7 + 3) hL
   obtain ⟨x0, x1⟩ := rd_bytes hb (p % (b.length : Int))
   obtain ⟨y0, y1⟩ := rd_bytes hb ((p * 7 + 3) % (b.length : Int))
   have d1 : Int.tdiv p (b.length : Int) = p / (b.length : Int) := Int.tdiv_eq_ediv_of_nonneg hp
   have d2 : 0 ≤ p / (b.length : Int) := Int.ediv_nonneg hp (by omega)
   have d3 : p / (b.length : Int) ≤ p := Int.ediv_le_self _ hp
   have ew1 : wrap64 (rd b (p % (b.length : Int))) = rd b (p % (b.length : Int)) := w64 (by omega) (by omega)
   have ew2 : wrap64 (rd b ((p * 7 + 3) % (b.length : Int))) = rd b ((p * 7 + 3) % (b.length : Int)) := w64 (by omega) (by omega)
   have ew3 : wrap64 (p / (b.length : Int)) = p / (b.length : Int) := w64 (by omega) (by omega)
   have hz : ∀ x y q : Int, 0 ≤ x → x < 256 → 0 ≤ y → y < 256 → 0 ≤ q → q ≤ p →
     wrap64 ((wrap64 ((wrap64 ((wrap64 (x * 131)) + (wrap64 (y * 1117)))) + (wrap64 (p * 29)))) + (wrap64 (q * 53))) = x * 131 + y * 1117 + p * 29 + q * 53 := by
    intro x y q hx hx1 hy hy1 hq hq1
    rw [w64 (n := x * 131) (by omega) (by omega), w64 (n := y * 1117) (by omega) (by omega), w64 (n := p * 29) (by omega) (by omega), w64 (n := q * 53) (by omega) (by omega),
     w64 (n := x * 131 + y * 1117) (by omega) (by omega), w64 (n := x * 131 + y * 1117 + p * 29) (by omega) (by omega), w64 (by omega) (by omega)]
   have hz' := hz _ _ _ x0 x1 y0 y1 d2 d3
   obtain ⟨S, hS⟩ : ∃ S, S = rd b (p % (b.length : Int)) * 131 + rd b ((p * 7 + 3) % (b.length : Int)) * 1117 + p * 29 + p / (b.length : Int) * 53 := ⟨_, rfl⟩
   rw [← hS] at hz'
   have s0 : 0 ≤ S ∧ S < 1000000000 := by omega
   have s1 : Int.tdiv S 64 = S / 64 := Int.tdiv_eq_ediv_of_nonneg s0.1
   have s2 : wrap64 (S / 64) = S / 64 := w64 (by omega) (by omega)
   have hx := xor_nonneg (x := S) (y := S / 64) (by omega) (by omega) (by omega) (by omega)
   refine ⟨bits .xor .i64 S (S / 64) % n, Int.emod_nonneg _ (by omega), Int.emod_lt_of_pos _ (by omega), ?_⟩
   simp only [spec_l13Rd_pick.f]
   refine ev_neg (by omega) ?_
   rw [w1, f0]
   refine Ev.step (fun k => by rw [spec_l13Rd_pick.j0]) ?_
   simp only [w2, t1, w4, w5, t2, d1, ew1, ew2, ew3, hz', s1, s2]
   refine ev_neg (by simp) (ev_neg e1 (ev_neg e0 (ev_pos a0 (ev_pos a1 (ev_pos c0 (ev_pos c1 (ev_neg (by omega) ?_)))))))
   rw [Int.tmod_eq_emod_of_nonneg hx]
   exact Ev.now _
theorem num_ev (b : List Int) (p : Int) (l : List Int) (hb : Bytes b) (hl : b.length ≤ 2000) (hp : 0 ≤ p) (hp1 : p ≤ 1000000) (hn : 1 ≤ l.length) :
  ∃ r, 0 ≤ r ∧ r < (l.length : Int) ∧ Ev (fun k => spec_l13Rd_num.f k b p l) (rd l r, p + 1) := by
 obtain ⟨r, h0, h1, h⟩ := pick_ev b p (l.length : Int) hb hl hp hp1 (by omega)
 refine ⟨r, h0, h1, ?_⟩
 simp only [spec_l13Rd_num.f]
 refine Ev.bind h ?_
 exact ev_pos h0 (ev_pos h1 (Ev.now _))
theorem of_ev (b : List Int) (p : Int) (l : List ByteArray) (hb : Bytes b) (hl : b.length ≤ 2000) (hp : 0 ≤ p) (hp1 : p ≤ 1000000) (hn : 1 ≤ l.length) :
  ∃ x ∈ l, Ev (fun k => spec_l13Rd_of.f k b p l) (x, p + 1) := by
 obtain ⟨r, h0, h1, h⟩ := pick_ev b p (l.length : Int) hb hl hp hp1 (by omega)
 have hr : r.toNat < l.length := by omega
 refine ⟨l[r.toNat], List.getElem_mem hr, ?_⟩
 have e : rdOf ByteArray.empty l r = l[r.toNat] := by
  unfold rdOf
  rw [List.getD_eq_getElem?_getD, List.getElem?_eq_getElem hr]
  rfl
 simp only [spec_l13Rd_of.f]
 refine Ev.bind h ?_
 refine ev_pos h0 (ev_pos h1 ?_)
 rw [e]
 exact Ev.now _
theorem bend_ex (b : List Int) (p : Int) (s : ByteArray) (bits : List ByteArray) (hb : Bytes b) (hl : b.length ≤ 2000) (hp : 0 ≤ p) (hp1 : p ≤ 100000) (hn : 1 ≤ bits.length) (hz : ∀ x ∈ bits, x.size ≤ 50) (hs : s.size ≤ 1000000) :
  ∃ t q, t.size ≤ s.size + 50 ∧ 0 ≤ q ∧ q ≤ p + 4 ∧ Ev (fun k => spec_l1Bend.f k b p s bits) (t, q) := by
 by_cases h0 : (s.size : Int) = 0
 ·refine ⟨s, p, by omega, hp, by omega, ?_⟩
  simp only [spec_l1Bend.f]
  refine ev_pos h0 ?_
  refine Ev.step (fun k => by rw [spec_l1Bend.j0]) ?_
  exact ev_pos rfl (Ev.now _)
 obtain ⟨r, r0, r1, e1⟩ := pick_ev b p 2 hb hl hp (by omega) (by omega)
 by_cases hr : r = 0
 ·refine ⟨s, p + 1, by omega, by omega, by omega, ?_⟩
  simp only [spec_l1Bend.f]
  refine ev_neg h0 (Ev.bind e1 ?_)
  refine Ev.step (fun k => by rw [spec_l1Bend.j0]) ?_
  exact ev_pos (by rw [hr]; rfl) (Ev.now _)
 obtain ⟨u, u0, u1, e2⟩ := pick_ev b (p + 1) (s.size : Int) hb hl (by omega) (by omega) (by omega)
 obtain ⟨x, hx, e3⟩ := of_ev b (p + 1 + 1) bits hb hl (by omega) (by omega) hn
 obtain ⟨v, v0, v1, e4⟩ := pick_ev b (p + 1 + 1 + 1) 2 hb hl (by omega) (by omega) (by omega)
 have hxs := hz x hx
 have w : wrap64 (u + v) = u + v := w64 (by omega) (by omega)
 have z1 : (s.extract 0 u.toNat).size ≤ s.size := by rw [ByteArray.size_extract]; omega
 have z2 : (s.extract (u + v).toNat s.size).size ≤ s.size := by rw [ByteArray.size_extract]; omega
 have z3 : ((s.extract 0 u.toNat) ++ x).size = (s.extract 0 u.toNat).size + x.size := ByteArray.size_append
 have z4 : (((s.extract 0 u.toNat) ++ x) ++ s.extract (u + v).toNat s.size).size = ((s.extract 0 u.toNat) ++ x).size + (s.extract (u + v).toNat s.size).size := ByteArray.size_append
 have z5 : (s.extract 0 u.toNat).size + (s.extract (u + v).toNat s.size).size ≤ s.size := by rw [ByteArray.size_extract, ByteArray.size_extract]; omega
 have g1 : (s.extract 0 u.toNat).size + x.size ≤ 9223372036854775807 := by omega
 have g2 : ((s.extract 0 u.toNat) ++ x).size + (s.extract (u + v).toNat s.size).size ≤ 9223372036854775807 := by omega
 refine ⟨(s.extract 0 u.toNat ++ x) ++ s.extract (u + v).toNat s.size, p + 1 + 1 + 1 + 1, by omega, by omega, by omega, ?_⟩
 simp only [spec_l1Bend.f]
 refine ev_neg h0 (Ev.bind e1 ?_)
 refine Ev.step (fun k => by rw [spec_l1Bend.j0]) ?_
 refine ev_neg (by simpa using hr) (Ev.bind e2 (ev_pos u0 (ev_pos (by omega) (Ev.bind e3 (ev_pos g1 (Ev.bind e4 ?_))))))
 simp only [w]
 exact ev_pos (by omega) (ev_pos (by omega) (ev_pos g2 (Ev.now _)))
theorem leap_is (y : Int) (h : 0 ≤ y) : spec_l4Leap.f y = some (decide (y % 4 = 0) && (decide (y % 100 ≠ 0) || decide (y % 400 = 0))) := by
 unfold spec_l4Leap.f
 rw [Int.tmod_eq_emod_of_nonneg h, Int.tmod_eq_emod_of_nonneg h, Int.tmod_eq_emod_of_nonneg h]
 by_cases a : y % 4 = 0
 ·by_cases b : y % 100 = 0
  ·rw [if_pos a, if_pos b]
   simp [a, b]
   rfl
  ·rw [if_pos a, if_neg b]
   simp [a, b]
 ·rw [if_neg a]
  simp [a]
theorem spec_days (y m : Int) : Ev (fun k => spec_DaysOf.f k y m) (dim y m) := by
 simp only [spec_DaysOf.f]
 have hT : Ev (fun k => spec_DaysOf.j0 k y m true) 0 := by
  refine Ev.step (fun k => by rw [spec_DaysOf.j0]) ?_
  exact ev_pos rfl (Ev.now _)
 by_cases a : y < 1970
 ·rw [dim_out (by omega)]
  exact ev_pos a hT
 refine ev_neg a ?_
 by_cases b : y > 2099
 ·rw [dim_out (by omega)]
  exact ev_pos b hT
 refine ev_neg b ?_
 by_cases c : m < 1
 ·rw [dim_out (by omega)]
  exact ev_pos c hT
 refine ev_neg c ?_
 by_cases d : m > 12
 ·rw [dim_out (by omega)]
  simp only [d, decide_true]
  exact hT
 simp only [d, decide_false]
 refine Ev.step (fun k => by rw [spec_DaysOf.j0]) ?_
 refine ev_neg (by simp) ?_
 refine ev_bind0 rfl ?_
 have w : wrap64 (m - 1) = m - 1 := w64 (by omega) (by omega)
 by_cases e : m = 2
 ·refine ev_pos e ?_
  refine ev_bind0 (leap_is y (by omega)) ?_
  subst e
  by_cases f : y % 4 = 0
  ·have hl : (decide (y % 4 = 0) && (decide (y % 100 ≠ 0) || decide (y % 400 = 0))) = true := by
    have : y % 100 ≠ 0 ∨ y % 400 = 0 := by omega
    simp [f, this]
   refine ev_pos hl ?_
   have : dim y 2 = 29 := by unfold dim; rw [if_neg (by omega), if_pos rfl, if_pos f]
   rw [this]
   exact Ev.now _
  ·have hl : ¬ (decide (y % 4 = 0) && (decide (y % 100 ≠ 0) || decide (y % 400 = 0))) = true := by simp [f]
   refine ev_neg hl ?_
   have : dim y 2 = 28 := by unfold dim; rw [if_neg (by omega), if_pos rfl, if_neg f]
   rw [this]
   refine ev_pos (by rw [w]; omega) (ev_pos (by rw [w]; decide) (ev_is (by rw [w]; rfl)))
 ·refine ev_neg e ?_
  refine ev_pos (by rw [w]; omega) (ev_pos (by rw [w]; show m - 1 < 12; omega) (ev_is ?_))
  rw [w]
  have hd : dim y m = if m = 4 ∨ m = 6 ∨ m = 9 ∨ m = 11 then 30 else 31 := by unfold dim; rw [if_neg (by omega), if_neg e]
  rw [hd]
  have hm : m = 1 ∨ m = 3 ∨ m = 4 ∨ m = 5 ∨ m = 6 ∨ m = 7 ∨ m = 8 ∨ m = 9 ∨ m = 10 ∨ m = 11 ∨ m = 12 := by omega
  rcases hm with rfl | rfl | rfl | rfl | rfl | rfl | rfl | rfl | rfl | rfl | rfl <;> rfl
theorem days_j2 (y m : Int) (h0 : 1970 ≤ y) (h1 : y ≤ 2099) (c : Bool) : Ev (fun k => impl_DaysOf.j2 k y m c) (if c = true then 30 else if m = 2 then (if y % 4 = 0 then 29 else 28) else 0) := by
 refine Ev.step (fun k => by rw [impl_DaysOf.j2]) ?_
 rw [Int.tmod_eq_emod_of_nonneg (by omega), Int.tmod_eq_emod_of_nonneg (by omega), Int.tmod_eq_emod_of_nonneg (by omega)]
 cases c with
 | true => exact ev_pos rfl (Ev.now _)
 | false =>
  refine ev_neg (by simp) ?_
  by_cases e : m = 2
  ·refine ev_pos e ?_
   by_cases f : y % 4 = 0
   ·refine ev_eq (r := 29) (by simp [e, f]) ?_
    refine ev_pos f ?_
    by_cases g : y % 100 = 0
    ·exact ev_pos g (ev_pos (by omega) (Ev.now _))
    ·exact ev_neg g (Ev.now _)
   ·refine ev_eq (r := 28) (by simp [e, f]) ?_
    exact ev_neg f (ev_neg (by omega) (Ev.now _))
  ·refine ev_eq (r := 0) (by simp [e]) ?_
   exact ev_neg e (Ev.now _)
theorem days_j1 (y m : Int) (h0 : 1970 ≤ y) (h1 : y ≤ 2099) (c : Bool) : Ev (fun k => impl_DaysOf.j1 k y m c) (if c = true then 31 else if m = 4 ∨ m = 6 ∨ m = 9 ∨ m = 11 then 30 else if m = 2 then (if y % 4 = 0 then 29 else 28) else 0) := by
 refine Ev.step (fun k => by rw [impl_DaysOf.j1]) ?_
 cases c with
 | true => exact ev_pos rfl (Ev.now _)
 | false =>
  refine ev_neg (by simp) ?_
  rw [if_neg Bool.false_ne_true]
  by_cases e : m = 4 ∨ m = 6 ∨ m = 9 ∨ m = 11
  ·rw [if_pos e]
   rcases e with e | e | e | e <;> subst e <;> simp <;> exact days_j2 y _ h0 h1 true
  ·rw [if_neg e]
   refine ev_neg (by omega) (ev_neg (by omega) (ev_neg (by omega) ?_))
   have : (m == 11) = false := by simp; omega
   rw [this]
   exact days_j2 y m h0 h1 false
theorem impl_days (y m : Int) : Ev (fun k => impl_DaysOf.f k y m) (dim y m) := by
 simp only [impl_DaysOf.f]
 have hT : Ev (fun k => impl_DaysOf.j0 k y m true) 0 := by
  refine Ev.step (fun k => by rw [impl_DaysOf.j0]) ?_
  exact ev_pos rfl (Ev.now _)
 by_cases a : y < 1970
 ·rw [dim_out (by omega)]
  exact ev_pos a hT
 refine ev_neg a ?_
 by_cases b : y > 2099
 ·rw [dim_out (by omega)]
  simp only [b, decide_true]
  exact hT
 simp only [b, decide_false]
 refine Ev.step (fun k => by rw [impl_DaysOf.j0]) ?_
 refine ev_neg (by simp) ?_
 by_cases e : m = 1 ∨ m = 3 ∨ m = 5 ∨ m = 7 ∨ m = 8 ∨ m = 10 ∨ m = 12
 ·have : dim y m = 31 := by unfold dim; rw [if_neg (by omega), if_neg (by omega), if_neg (by omega)]
  rw [this]
  rcases e with e | e | e | e | e | e | e <;> subst e <;> simp <;> exact days_j1 y _ (by omega) (by omega) true
 ·have : dim y m = if m = 4 ∨ m = 6 ∨ m = 9 ∨ m = 11 then 30 else if m = 2 then (if y % 4 = 0 then 29 else 28) else 0 := by
   unfold dim
   by_cases g : m < 1 ∨ m > 12
   ·rw [if_pos (by omega), if_neg (by omega), if_neg (by omega)]
   ·rw [if_neg (by omega)]
    by_cases g2 : m = 2
    ·have n4 : ¬ (m = 4 ∨ m = 6 ∨ m = 9 ∨ m = 11) := by omega
     rw [if_pos g2, if_neg n4, if_pos g2]
    ·rw [if_neg g2]
     have : m = 4 ∨ m = 6 ∨ m = 9 ∨ m = 11 := by omega
     rw [if_pos this, if_pos this]
  rw [this]
  refine ev_neg (by omega) (ev_neg (by omega) (ev_neg (by omega) (ev_neg (by omega) (ev_neg (by omega) (ev_neg (by omega) ?_)))))
  have : (m == 12) = false := by simp; omega
  rw [this]
  exact days_j1 y m (by omega) (by omega) false
theorem between_is (a b c : Int) : impl_between.f a b c = some (decide (b ≤ a ∧ a ≤ c)) := by
 unfold impl_between.f
 by_cases h : a ≥ b
 ·rw [if_pos h]
  have : b ≤ a := h
  simp [this]
 ·rw [if_neg h]
  have : ¬ b ≤ a := h
  simp [this]
theorem zone_is (z : Int) : impl_isZone.f z = some (decide (-720 ≤ z ∧ z ≤ 840)) := by
 unfold impl_isZone.f
 rw [between_is]
 rfl
theorem before_in (y m S R : Int) (j : Nat) (hj : 1970 + (j : Int) < y) (hj2 : j < 130) (hS : 0 ≤ S ∧ S ≤ 1000)
  (hnext : Ev (fun k => impl_daysBefore.l0 k y m (S + cum (12 * (j + 1))) (1970 + ((j + 1 : Nat) : Int))) R) :
  ∀ e i : Nat, i + e = 12 → Ev (fun k => impl_daysBefore.l1 k y m (S + cum (12 * j + i)) (1970 + (j : Int)) (1 + (i : Int))) R := by
 intro e
 induction e with
 | zero =>
  intro i hi
  obtain rfl : i = 12 := by omega
  refine Ev.step (fun k => by rw [impl_daysBefore.l1]) ?_
  refine ev_neg (by omega) ?_
  have w : wrap64 (1970 + (j : Int) + 1) = 1970 + ((j + 1 : Nat) : Int) := by rw [w64 (by omega) (by omega)]; omega
  rw [w]
  exact hnext
 | succ e ih =>
  intro i hi
  refine Ev.step (fun k => by rw [impl_daysBefore.l1]) ?_
  refine ev_pos (by omega) (ev_pos hj ?_)
  refine Ev.bind (impl_days _ _) ?_
  have w : wrap64 (1 + (i : Int) + 1) = 1 + ((i + 1 : Nat) : Int) := by rw [w64 (by omega) (by omega)]; omega
  have hc : S + cum (12 * j + i) + dim (1970 + (j : Int)) (1 + (i : Int)) = S + cum (12 * j + (i + 1)) := by
   have : cum (12 * j + (i + 1)) = cum (12 * j + i) + dm (12 * j + i) := rfl
   rw [this, dm_add j i (by omega)]
   omega
  have b1 := cum_hi (12 * j + (i + 1))
  have b2 := cum_nonneg (12 * j + (i + 1))
  have w2 : wrap64 (S + cum (12 * j + i) + dim (1970 + (j : Int)) (1 + (i : Int))) = S + cum (12 * j + (i + 1)) := by rw [hc, w64 (by omega) (by omega)]
  rw [w, w2]
  exact ih (i + 1) (by omega)
theorem before_at (m S : Int) (J I : Nat) (hJ : J < 130) (hI : I < 12) (hm : m = 1 + (I : Int)) (hS : 0 ≤ S ∧ S ≤ 1000) :
  ∀ e i : Nat, i + e = I → Ev (fun k => impl_daysBefore.l1 k (1970 + (J : Int)) m (S + cum (12 * J + i)) (1970 + (J : Int)) (1 + (i : Int))) (S + cum (12 * J + I)) := by
 intro e
 induction e with
 | zero =>
  intro i hi
  obtain rfl : i = I := by omega
  refine Ev.step (fun k => by rw [impl_daysBefore.l1]) ?_
  refine ev_pos (by omega) (ev_neg (by omega) (ev_neg (by omega) ?_))
  have w : wrap64 (1970 + (J : Int) + 1) = 1971 + (J : Int) := by rw [w64 (by omega) (by omega)]; omega
  rw [w]
  refine Ev.step (fun k => by rw [impl_daysBefore.l0]) ?_
  exact ev_neg (by omega) (Ev.now _)
 | succ e ih =>
  intro i hi
  refine Ev.step (fun k => by rw [impl_daysBefore.l1]) ?_
  refine ev_pos (by omega) (ev_neg (by omega) (ev_pos (by omega) ?_))
  refine Ev.bind (impl_days _ _) ?_
  have w : wrap64 (1 + (i : Int) + 1) = 1 + ((i + 1 : Nat) : Int) := by rw [w64 (by omega) (by omega)]; omega
  have hc : S + cum (12 * J + i) + dim (1970 + (J : Int)) (1 + (i : Int)) = S + cum (12 * J + (i + 1)) := by
   have : cum (12 * J + (i + 1)) = cum (12 * J + i) + dm (12 * J + i) := rfl
   rw [this, dm_add J i (by omega)]
   omega
  have b1 := cum_hi (12 * J + (i + 1))
  have b2 := cum_nonneg (12 * J + (i + 1))
  have w2 : wrap64 (S + cum (12 * J + i) + dim (1970 + (J : Int)) (1 + (i : Int))) = S + cum (12 * J + (i + 1)) := by rw [hc, w64 (by omega) (by omega)]
  rw [w, w2]
  exact ih (i + 1) (by omega)
theorem before_from (m S : Int) (J I : Nat) (hJ : J < 130) (hI : I < 12) (hm : m = 1 + (I : Int)) (hS : 0 ≤ S ∧ S ≤ 1000) :
  ∀ e j : Nat, j + e = J → Ev (fun k => impl_daysBefore.l0 k (1970 + (J : Int)) m (S + cum (12 * j)) (1970 + (j : Int))) (S + cum (12 * J + I)) := by
 intro e
 induction e with
 | zero =>
  intro j hj
  obtain rfl : j = J := by omega
  refine Ev.step (fun k => by rw [impl_daysBefore.l0]) ?_
  refine ev_pos (by omega) ?_
  exact before_at m S j I hJ hI hm hS I 0 (by omega)
 | succ e ih =>
  intro j hj
  refine Ev.step (fun k => by rw [impl_daysBefore.l0]) ?_
  refine ev_pos (by omega) ?_
  exact before_in _ m S _ j (by omega) (by omega) hS (ih (j + 1) (by omega)) 12 0 (by omega)
theorem before_ev {y m : Int} (d : Int) (h0 : 1970 ≤ y) (h1 : y ≤ 2099) (h2 : 1 ≤ m) (h3 : m ≤ 12) (h4 : 1 ≤ d) (h5 : d ≤ 31) :
  Ev (fun k => impl_daysBefore.f k y m d) (d - 1 + cum (ix y m)) := by
 simp only [impl_daysBefore.f]
 rw [w64 (by omega) (by omega)]
 obtain ⟨J, rfl⟩ : ∃ J : Nat, y = 1970 + (J : Int) := ⟨(y - 1970).toNat, by omega⟩
 obtain ⟨I, rfl⟩ : ∃ I : Nat, m = 1 + (I : Int) := ⟨(m - 1).toNat, by omega⟩
 have e : ix (1970 + (J : Int)) (1 + (I : Int)) = 12 * J + I := by unfold ix; omega
 have h := before_from (1 + (I : Int)) (d - 1) J I (by omega) (by omega) rfl (by omega) J 0 (by omega)
 rw [e]
 have z : d - 1 + cum (12 * 0) = d - 1 := by show d - 1 + 0 = d - 1; omega
 rw [z] at h
 exact h
theorem seconds_ev {y m d h mi s z : Int} (H : Fields y m d h mi s z) : Ev (fun k => impl_Date_seconds.f k y m d h mi s z) (secs y m d h mi s z) := by
 obtain ⟨y0, y1, m0, m1⟩ := H.ym
 obtain ⟨f1, f2, f3, f4, f5, f6, f7, f8, f9, f10⟩ := H
 have b1 := cum_hi (ix y m)
 have b2 := cum_nonneg (ix y m)
 have b3 := (dim_bd y m).2
 simp only [impl_Date_seconds.f]
 refine Ev.bind (before_ev d y0 y1 m0 m1 f1 (by omega)) ?_
 refine ev_is ?_
 unfold secs
 rw [w64 (n := (d - 1 + cum (ix y m)) * 86400) (by omega) (by omega), w64 (n := h * 3600) (by omega) (by omega), w64 (n := mi * 60) (by omega) (by omega), w64 (n := z * 60) (by omega) (by omega),
  w64 (n := (d - 1 + cum (ix y m)) * 86400 + h * 3600) (by omega) (by omega), w64 (n := (d - 1 + cum (ix y m)) * 86400 + h * 3600 + mi * 60) (by omega) (by omega),
  w64 (n := (d - 1 + cum (ix y m)) * 86400 + h * 3600 + mi * 60 + s) (by omega) (by omega), w64 (by omega) (by omega)]
 congr 1
 omega
theorem valid_ev (y m d h mi s z : Int) : Ev (fun k => impl_DateValid.f k y m d h mi s z) (decide (Valid y m d h mi s z)) := by
 simp only [impl_DateValid.f, between_is, zone_is, Option.bind_some]
 refine Ev.bind (impl_days y m) ?_
 by_cases c1 : 1 ≤ d ∧ d ≤ dim y m
 ·refine ev_pos (decide_eq_true c1) ?_
  by_cases c2 : 0 ≤ h ∧ h ≤ 23
  ·refine ev_pos (decide_eq_true c2) ?_
   by_cases c3 : 0 ≤ mi ∧ mi ≤ 59
   ·refine ev_pos (decide_eq_true c3) ?_
    by_cases c4 : 0 ≤ s ∧ s ≤ 59
    ·refine ev_pos (decide_eq_true c4) ?_
     by_cases c5 : -720 ≤ z ∧ z ≤ 840
     ·refine ev_pos (decide_eq_true c5) ?_
      have F : Fields y m d h mi s z := ⟨c1.1, c1.2, c2.1, c2.2, c3.1, c3.2, c4.1, c4.2, c5.1, c5.2⟩
      refine Ev.bind (seconds_ev F) ?_
      refine ev_is ?_
      congr 1
      rw [decide_eq_decide]
      unfold Valid
      constructor
      ·intro q
       exact ⟨F, by omega, by omega⟩
      ·intro q
       omega
     ·refine ev_neg (by simpa using c5) (ev_is ?_)
      rw [decide_eq_false (fun q : Valid y m d h mi s z => c5 ⟨q.1.2.2.2.2.2.2.2.2.1, q.1.2.2.2.2.2.2.2.2.2⟩)]
    ·refine ev_neg (by simpa using c4) (ev_is ?_)
     rw [decide_eq_false (fun q : Valid y m d h mi s z => c4 ⟨q.1.2.2.2.2.2.2.1, q.1.2.2.2.2.2.2.2.1⟩)]
   ·refine ev_neg (by simpa using c3) (ev_is ?_)
    rw [decide_eq_false (fun q : Valid y m d h mi s z => c3 ⟨q.1.2.2.2.2.1, q.1.2.2.2.2.2.1⟩)]
  ·refine ev_neg (by simpa using c2) (ev_is ?_)
   rw [decide_eq_false (fun q : Valid y m d h mi s z => c2 ⟨q.1.2.2.1, q.1.2.2.2.1⟩)]
 ·refine ev_neg (by simpa using c1) (ev_is ?_)
  rw [decide_eq_false (fun q : Valid y m d h mi s z => c1 ⟨q.1.1, q.1.2.1⟩)]
theorem szone_is (z : Int) : spec_l4Zone.f z = some (decide (-720 ≤ z ∧ z ≤ 840)) := by
 unfold spec_l4Zone.f
 by_cases h : z ≥ -720
 ·rw [if_pos h]
  have : -720 ≤ z := h
  simp [this]
 ·rw [if_neg h]
  have : ¬ -720 ≤ z := h
  simp [this]
theorem sleap_is {y : Int} (h0 : 1970 ≤ y) (h1 : y ≤ 2099) : spec_l4Leap.f y = some (decide (y % 4 = 0)) := by
 rw [leap_is y (by omega)]
 congr 1
 by_cases f : y % 4 = 0
 ·have : y % 100 ≠ 0 ∨ y % 400 = 0 := by omega
  simp [f, this]
 ·simp [f]
theorem sfields_ev (y m d h mi s z : Int) : Ev (fun k => spec_l4Fields.f k y m d h mi s z) (decide (Fields y m d h mi s z)) := by
 simp only [spec_l4Fields.f, szone_is, Option.bind_some]
 by_cases c1 : d ≥ 1
 ·refine ev_pos c1 ?_
  refine Ev.bind (spec_days y m) ?_
  by_cases c2 : d ≤ dim y m
  ·refine ev_pos c2 ?_
   by_cases c3 : h ≥ 0
   ·refine ev_pos c3 ?_
    by_cases c4 : h ≤ 23
    ·refine ev_pos c4 ?_
     by_cases c5 : mi ≥ 0
     ·refine ev_pos c5 ?_
      by_cases c6 : mi ≤ 59
      ·refine ev_pos c6 ?_
       by_cases c7 : s ≥ 0
       ·refine ev_pos c7 ?_
        by_cases c8 : s ≤ 59
        ·refine ev_pos c8 (ev_is ?_)
         congr 1
         rw [decide_eq_decide]
         exact ⟨fun q => ⟨c1, c2, c3, c4, c5, c6, c7, c8, q.1, q.2⟩, fun q => q.2.2.2.2.2.2.2.2⟩
        ·refine ev_neg c8 (ev_is ?_)
         rw [decide_eq_false (fun q : Fields y m d h mi s z => c8 q.2.2.2.2.2.2.2.1)]
       ·refine ev_neg c7 (ev_is ?_)
        rw [decide_eq_false (fun q : Fields y m d h mi s z => c7 q.2.2.2.2.2.2.1)]
      ·refine ev_neg c6 (ev_is ?_)
       rw [decide_eq_false (fun q : Fields y m d h mi s z => c6 q.2.2.2.2.2.1)]
     ·refine ev_neg c5 (ev_is ?_)
      rw [decide_eq_false (fun q : Fields y m d h mi s z => c5 q.2.2.2.2.1)]
    ·refine ev_neg c4 (ev_is ?_)
     rw [decide_eq_false (fun q : Fields y m d h mi s z => c4 q.2.2.2.1)]
   ·refine ev_neg c3 (ev_is ?_)
    rw [decide_eq_false (fun q : Fields y m d h mi s z => c3 q.2.2.1)]
  ·refine ev_neg c2 (ev_is ?_)
   rw [decide_eq_false (fun q : Fields y m d h mi s z => c2 q.2.1)]
 ·refine ev_neg c1 (ev_is ?_)
  rw [decide_eq_false (fun q : Fields y m d h mi s z => c1 q.1)]
theorem sseconds_months {y m d h mi s z S R : Int} (J I : Nat) (hI : I < 12) (hy : y = 1970 + (J : Int)) (hm : m = 1 + (I : Int)) (hS : 0 ≤ S ∧ S ≤ 1000)
  (hR : R = wrap64 ((wrap64 ((wrap64 ((wrap64 ((wrap64 ((S + cum (12 * J + I)) * 86400)) + (wrap64 (h * 3600)))) + (wrap64 (mi * 60)))) + s)) - (wrap64 (z * 60)))) :
  ∀ e i : Nat, i + e = I → Ev (fun k => spec_l4Seconds.l1 k (S + cum (12 * J + i)) (1 + (i : Int)) y m d h mi s z) R := by
 intro e
 induction e with
 | zero =>
  intro i hi
  obtain rfl : i = I := by omega
  refine Ev.step (fun k => by rw [spec_l4Seconds.l1]) ?_
  refine ev_neg (by omega) (ev_is ?_)
  rw [hR]
 | succ e ih =>
  intro i hi
  have hih := ih (i + 1) (by omega)
  have hc : S + cum (12 * J + i) + dim (1970 + (J : Int)) (1 + (i : Int)) = S + cum (12 * J + (i + 1)) := by
   have : cum (12 * J + (i + 1)) = cum (12 * J + i) + dm (12 * J + i) := rfl
   rw [this, dm_add J i (by omega)]
   omega
  have b1 := cum_hi (12 * J + (i + 1))
  have b2 := cum_nonneg (12 * J + (i + 1))
  obtain ⟨w, w2⟩ : wrap64 (1 + (i : Int) + 1) = 1 + ((i + 1 : Nat) : Int) ∧ wrap64 (S + cum (12 * J + i) + dim (1970 + (J : Int)) (1 + (i : Int))) = S + cum (12 * J + (i + 1)) :=
   ⟨by rw [w64 (by omega) (by omega)]; omega, by rw [hc, w64 (by omega) (by omega)]⟩
  refine Ev.step (fun k => by rw [spec_l4Seconds.l1]) ?_
  refine ev_pos (by omega) ?_
  refine Ev.bind (spec_days _ _) ?_
  rw [w, hy, w2, ← hy]
  exact hih
theorem sseconds_years {y m d h mi s z S R : Int} (J I : Nat) (hJ : J < 130) (hI : I < 12) (hy : y = 1970 + (J : Int)) (hm : m = 1 + (I : Int)) (hS : 0 ≤ S ∧ S ≤ 1000)
  (hR : R = wrap64 ((wrap64 ((wrap64 ((wrap64 ((wrap64 ((S + cum (12 * J + I)) * 86400)) + (wrap64 (h * 3600)))) + (wrap64 (mi * 60)))) + s)) - (wrap64 (z * 60)))) :
  ∀ e j : Nat, j + e = J → Ev (fun k => spec_l4Seconds.l0 k (S + cum (12 * j)) (1970 + (j : Int)) y m d h mi s z) R := by
 intro e
 induction e with
 | zero =>
  intro j hj
  obtain rfl : j = J := by omega
  refine Ev.step (fun k => by rw [spec_l4Seconds.l0]) ?_
  refine ev_neg (by omega) ?_
  exact sseconds_months j I hI hy hm hS hR I 0 (by omega)
 | succ e ih =>
  intro j hj
  have hih := ih (j + 1) (by omega)
  have hc := cum_12 j (by omega)
  have b1 := cum_hi (12 * (j + 1))
  have b2 := cum_nonneg (12 * j)
  have hl := sleap_is (y := 1970 + (j : Int)) (by omega) (by omega)
  refine Ev.step (fun k => by rw [spec_l4Seconds.l0]) ?_
  refine ev_pos (by omega) ?_
  refine ev_bind0 hl ?_
  by_cases f : (1970 + (j : Int)) % 4 = 0
  ·rw [if_pos f] at hc
   obtain ⟨w, w2, w3⟩ : wrap64 (1970 + (j : Int) + 1) = 1970 + ((j + 1 : Nat) : Int) ∧ wrap64 (S + cum (12 * j) + 365) = S + cum (12 * j) + 365 ∧ wrap64 (S + cum (12 * j) + 365 + 1) = S + cum (12 * (j + 1)) :=
    ⟨by rw [w64 (by omega) (by omega)]; omega, w64 (by omega) (by omega), by rw [w64 (by omega) (by omega)]; omega⟩
   refine ev_pos (decide_eq_true f) ?_
   rw [w, w2, w3]
   exact hih
  ·rw [if_neg f] at hc
   obtain ⟨w, w2⟩ : wrap64 (1970 + (j : Int) + 1) = 1970 + ((j + 1 : Nat) : Int) ∧ wrap64 (S + cum (12 * j) + 365) = S + cum (12 * (j + 1)) :=
    ⟨by rw [w64 (by omega) (by omega)]; omega, by rw [w64 (by omega) (by omega)]; omega⟩
   refine ev_neg (by simpa using f) ?_
   rw [w, w2]
   exact hih
theorem sseconds_ev {y m d h mi s z : Int} (H : Fields y m d h mi s z) : Ev (fun k => spec_l4Seconds.f k y m d h mi s z) (secs y m d h mi s z) := by
 obtain ⟨y0, y1, m0, m1⟩ := H.ym
 obtain ⟨f1, f2, f3, f4, f5, f6, f7, f8, f9, f10⟩ := H
 have b3 := (dim_bd y m).2
 simp only [spec_l4Seconds.f]
 rw [w64 (by omega) (by omega)]
 obtain ⟨J, hy⟩ : ∃ J : Nat, y = 1970 + (J : Int) := ⟨(y - 1970).toNat, by omega⟩
 obtain ⟨I, hm⟩ : ∃ I : Nat, m = 1 + (I : Int) := ⟨(m - 1).toNat, by omega⟩
 have e : ix y m = 12 * J + I := by unfold ix; omega
 have b1 := cum_hi (12 * J + I)
 have b2 := cum_nonneg (12 * J + I)
 have hs := sseconds_years (y := y) (m := m) (d := d) (h := h) (mi := mi) (s := s) (z := z) (S := d - 1) (R := secs y m d h mi s z) J I (by omega) (by omega) hy hm (by omega) (by
  unfold secs
  rw [e]
  rw [w64 (n := (d - 1 + cum (12 * J + I)) * 86400) (by omega) (by omega), w64 (n := h * 3600) (by omega) (by omega), w64 (n := mi * 60) (by omega) (by omega), w64 (n := z * 60) (by omega) (by omega),
   w64 (n := (d - 1 + cum (12 * J + I)) * 86400 + h * 3600) (by omega) (by omega), w64 (n := (d - 1 + cum (12 * J + I)) * 86400 + h * 3600 + mi * 60) (by omega) (by omega),
   w64 (n := (d - 1 + cum (12 * J + I)) * 86400 + h * 3600 + mi * 60 + s) (by omega) (by omega), w64 (by omega) (by omega)]
  omega) J 0 (by omega)
 have z0 : d - 1 + cum (12 * 0) = d - 1 := by show d - 1 + 0 = d - 1; omega
 rw [z0] at hs
 exact hs
theorem svalid_ev (y m d h mi s z : Int) : Ev (fun k => spec_DateValid.f k y m d h mi s z) (decide (Valid y m d h mi s z)) := by
 simp only [spec_DateValid.f]
 refine Ev.bind (sfields_ev y m d h mi s z) ?_
 by_cases F : Fields y m d h mi s z
 ·refine ev_pos (decide_eq_true F) ?_
  refine Ev.bind (sseconds_ev F) ?_
  by_cases c : secs y m d h mi s z ≥ 0
  ·refine ev_pos c (ev_is ?_)
   congr 1
   rw [decide_eq_decide]
   exact ⟨fun q => ⟨F, c, q⟩, fun q => q.2.2⟩
  ·refine ev_neg c (ev_is ?_)
   rw [decide_eq_false (fun q : Valid y m d h mi s z => c q.2.1)]
 ·refine ev_neg (by simpa using F) (ev_is ?_)
  rw [decide_eq_false (fun q : Valid y m d h mi s z => F q.1)]
theorem spec_dateof_loop (days h mi s z : Int) (hd0 : 0 ≤ days) (N : Nat) (hN : N < 1560) (a : cum N ≤ days) (b : days < cum (N + 1)) (ht : days < 47482) :
  ∀ e n : Nat, n + e = N → Ev (fun k => spec_DateOf.l0 k (days - cum n) (yr n) (mo n) 0 h mi s z) (yr N, mo N, days - cum N + 1, h, mi, s, z, true) := by
 intro e
 induction e with
 | zero =>
  intro n hn
  obtain rfl : n = N := by omega
  have hc : cum (n + 1) = cum n + dm n := rfl
  have hdm : dim (yr n) (mo n) = dm n := rfl
  refine Ev.step (fun k => by rw [spec_DateOf.l0]) ?_
  refine Ev.bind (spec_days _ _) ?_
  refine ev_neg (by omega) ?_
  have w : wrap64 (days - cum n + 1) = days - cum n + 1 := by
   have := cum_nonneg n
   exact w64 (by omega) (by omega)
  rw [w]
  exact Ev.now _
 | succ e ih =>
  intro n hn
  have hc : cum (n + 1) = cum n + dm n := rfl
  have hle := cum_le (a := n + 1) (b := N) (by omega)
  have hdm : dim (yr n) (mo n) = dm n := rfl
  have hb := dm_bd n
  have h0 := cum_nonneg n
  refine Ev.step (fun k => by rw [spec_DateOf.l0]) ?_
  refine Ev.bind (spec_days _ _) ?_
  refine ev_pos (by omega) ?_
  refine Ev.bind (spec_days _ _) ?_
  have hm := mo_bd n
  have hyl := yr_lo n
  have hyh := yr_hi (n := n) (by omega)
  have hih := ih (n + 1) (by omega)
  obtain ⟨w, w2, w3⟩ : wrap64 (days - cum n - dim (yr n) (mo n)) = days - cum (n + 1) ∧ wrap64 (mo n + 1) = mo n + 1 ∧ wrap64 (yr n + 1) = yr n + 1 :=
   ⟨by rw [w64 (by omega) (by omega)]; omega, w64 (by omega) (by omega), w64 (by omega) (by omega)⟩
  rw [w, w2, w3]
  by_cases hm12 : mo n + 1 = 13
  ·refine ev_pos hm12 ?_
   obtain ⟨e1, e2⟩ := ym_jan' (n := n) hm12
   rw [e1, e2] at hih
   exact hih
  ·refine ev_neg hm12 ?_
   obtain ⟨e1, e2⟩ := ym_next' (n := n) hm12
   rw [e1, e2] at hih
   exact hih
theorem spec_dateof (s z : Int) : Ev (fun k => spec_DateOf.f k s z) (dateOf s z) := by
 simp only [spec_DateOf.f, szone_is, Option.bind_some]
 have hT : Ev (fun k => spec_DateOf.j0 k s z true) (0, 0, 0, 0, 0, 0, 0, false) := by
  refine Ev.step (fun k => by rw [spec_DateOf.j0]) ?_
  exact ev_pos rfl (Ev.now _)
 by_cases c0 : s < 0
 ·rw [dateOf_neg (fun q => by have := q.1; omega)]
  exact ev_pos c0 hT
 refine ev_neg c0 ?_
 by_cases c1 : s ≥ 4102444800
 ·rw [dateOf_neg (fun q => by have := q.2.1; omega)]
  exact ev_pos c1 hT
 refine ev_neg c1 ?_
 by_cases c2 : -720 ≤ z ∧ z ≤ 840
 ·rw [decide_eq_true c2]
  refine Ev.step (fun k => by rw [spec_DateOf.j0]) ?_
  refine ev_neg (by simp) ?_
  have w : wrap64 (s + wrap64 (z * 60)) = s + z * 60 := by rw [w64 (n := z * 60) (by omega) (by omega), w64 (by omega) (by omega)]
  rw [w]
  obtain ⟨t, ht⟩ : ∃ t, t = s + z * 60 := ⟨_, rfl⟩
  rw [← ht]
  have hT1 : Ev (fun k => spec_DateOf.j1 k z t true) (0, 0, 0, 0, 0, 0, 0, false) := by
   refine Ev.step (fun k => by rw [spec_DateOf.j1]) ?_
   exact ev_pos rfl (Ev.now _)
  by_cases c3 : t < 0
  ·rw [dateOf_neg (fun q => by have := q.2.2.2.2.1; omega)]
   exact ev_pos c3 hT1
  refine ev_neg c3 ?_
  by_cases c4 : t < 4102444800
  ·rw [decide_eq_false (by omega : ¬ t ≥ 4102444800)]
   refine Ev.step (fun k => by rw [spec_DateOf.j1]) ?_
   refine ev_neg (by simp) ?_
   have t0 : 0 ≤ t := by omega
   have d1 : Int.tdiv t 86400 = t / 86400 := Int.tdiv_eq_ediv_of_nonneg t0
   have d2 : Int.tmod t 86400 = t % 86400 := Int.tmod_eq_emod_of_nonneg t0
   have d3 : Int.tdiv (t % 86400) 3600 = t % 86400 / 3600 := Int.tdiv_eq_ediv_of_nonneg (by omega)
   have d4 : Int.tdiv (t % 86400) 60 = t % 86400 / 60 := Int.tdiv_eq_ediv_of_nonneg (by omega)
   have d5 : Int.tmod (t % 86400 / 60) 60 = t % 86400 / 60 % 60 := Int.tmod_eq_emod_of_nonneg (by omega)
   have d7 : Int.tmod t 60 = t % 86400 % 60 := by rw [Int.tmod_eq_emod_of_nonneg t0]; omega
   have w1 : wrap64 (t / 86400) = t / 86400 := w64 (by omega) (by omega)
   have w2 : wrap64 (t % 86400 / 3600) = t % 86400 / 3600 := w64 (by omega) (by omega)
   have w3 : wrap64 (t % 86400 / 60) = t % 86400 / 60 := w64 (by omega) (by omega)
   simp only [d1, d2, d3, d4, w1, w2, w3, d5, d7]
   have z0 : t / 86400 - cum 0 = t / 86400 := by show t / 86400 - 0 = _; omega
   obtain ⟨a, b⟩ := mon_at (t := t / 86400) (by omega) (by omega)
   have hl := spec_dateof_loop (t / 86400) (t % 86400 / 3600) (t % 86400 / 60 % 60) (t % 86400 % 60) z (by omega) (mon (t / 86400)) (month_lt a b) a b (by omega) (mon (t / 86400)) 0 (by omega)
   rw [z0] at hl
   have hd : dateOf s z = local8 t z := by
    unfold dateOf
    rw [if_pos ⟨by omega, by omega, c2.1, c2.2, by omega, by omega⟩, ht]
   rw [hd]
   exact hl
  ·rw [decide_eq_true (by omega : t ≥ 4102444800), dateOf_neg (fun q => by have := q.2.2.2.2.2; omega)]
   exact hT1
 ·rw [decide_eq_false c2, dateOf_neg (fun q => c2 ⟨q.2.2.1, q.2.2.2.1⟩)]
  exact hT
theorem l4draw_ex (b : List Int) (p : Int) (hb : Bytes b) (hl : b.length ≤ 2000) (hp : 0 ≤ p) (hp1 : p ≤ 100) :
  ∃ y m d h mi s z q : Int, 0 ≤ q ∧ q ≤ 200 ∧ Ev (fun k => spec_l4Draw.f k b p) (y, m, d, h, mi, s, z, q) := by
 obtain ⟨r1, a1, a2, e1⟩ := num_ev b p [1767596889, 951782400, 86400, 1000000000, 4102358400, 1709164800, 1709251199] hb hl hp (by omega) (by simp)
 obtain ⟨r2, b1, b2, e2⟩ := pick_ev b (p + 1) 100000 hb hl (by omega) (by omega) (by omega)
 obtain ⟨r3, c1, c2, e3⟩ := num_ev b (p + 1 + 1) [0, 60, (-480), 330, 0, 840, (-720)] hb hl (by omega) (by omega) (by simp)
 obtain ⟨y, m, d, h, mi, s, z, o, hx⟩ : ∃ y m d h mi s z o, dateOf (wrap64 (rd [1767596889, 951782400, 86400, 1000000000, 4102358400, 1709164800, 1709251199] r1 + r2)) (rd [0, 60, (-480), 330, 0, 840, (-720)] r3) = (y, m, d, h, mi, s, z, o) := ⟨_, _, _, _, _, _, _, _, rfl⟩
 have e4 := spec_dateof (wrap64 (rd [1767596889, 951782400, 86400, 1000000000, 4102358400, 1709164800, 1709251199] r1 + r2)) (rd [0, 60, (-480), 330, 0, 840, (-720)] r3)
 rw [hx] at e4
 refine ⟨y, m, d, h, mi, s, z, p + 1 + 1 + 1, by omega, by omega, ?_⟩
 simp only [spec_l4Draw.f]
 refine Ev.bind e1 ?_
 refine Ev.bind e2 ?_
 refine Ev.bind e3 ?_
 refine Ev.bind e4 ?_
 exact Ev.now _
theorem l4wrong_ex (b : List Int) (p y m d h mi s z : Int) (hb : Bytes b) (hl : b.length ≤ 2000) (hp : 0 ≤ p) (hp1 : p ≤ 1000) :
  ∃ y' m' d' h' mi' s' z' q : Int, 0 ≤ q ∧ q ≤ p + 2 ∧ Ev (fun k => spec_l4Wrong.f k b p y m d h mi s z) (y', m', d', h', mi', s', z', q) := by
 obtain ⟨r, r0, r1, e⟩ := pick_ev b p 24 hb hl hp (by omega) (by omega)
 by_cases c0 : r = 0
 ·obtain ⟨x, _, _, e2⟩ := num_ev b (p + 1) [0, 31, 32, 29, 30] hb hl (by omega) (by omega) (by simp)
  refine ⟨y, m, rd [0, 31, 32, 29, 30] x, h, mi, s, z, p + 1 + 1, by omega, by omega, ?_⟩
  simp only [spec_l4Wrong.f]
  refine Ev.bind e (ev_pos c0 ?_)
  exact Ev.bind e2 (Ev.now _)
 by_cases c1 : r = 1
 ·obtain ⟨x, _, _, e2⟩ := num_ev b (p + 1) [0, 13, 2] hb hl (by omega) (by omega) (by simp)
  refine ⟨y, rd [0, 13, 2] x, d, h, mi, s, z, p + 1 + 1, by omega, by omega, ?_⟩
  simp only [spec_l4Wrong.f]
  refine Ev.bind e (ev_neg c0 (ev_pos c1 ?_))
  exact Ev.bind e2 (Ev.now _)
 by_cases c2 : r = 2
 ·obtain ⟨x, _, _, e2⟩ := num_ev b (p + 1) [1969, 2100, 1970, 2099] hb hl (by omega) (by omega) (by simp)
  refine ⟨rd [1969, 2100, 1970, 2099] x, m, d, h, mi, s, z, p + 1 + 1, by omega, by omega, ?_⟩
  simp only [spec_l4Wrong.f]
  refine Ev.bind e (ev_neg c0 (ev_neg c1 (ev_pos c2 ?_)))
  exact Ev.bind e2 (Ev.now _)
 by_cases c3 : r = 3
 ·obtain ⟨x, _, _, e2⟩ := num_ev b (p + 1) [24, (-1), 0, 23] hb hl (by omega) (by omega) (by simp)
  refine ⟨y, m, d, rd [24, (-1), 0, 23] x, mi, s, z, p + 1 + 1, by omega, by omega, ?_⟩
  simp only [spec_l4Wrong.f]
  refine Ev.bind e (ev_neg c0 (ev_neg c1 (ev_neg c2 (ev_pos c3 ?_))))
  exact Ev.bind e2 (Ev.now _)
 by_cases c4 : r = 4
 ·obtain ⟨x, _, _, e2⟩ := num_ev b (p + 1) [(-721), 841, 840] hb hl (by omega) (by omega) (by simp)
  refine ⟨y, m, d, h, mi, s, rd [(-721), 841, 840] x, p + 1 + 1, by omega, by omega, ?_⟩
  simp only [spec_l4Wrong.f]
  refine Ev.bind e (ev_neg c0 (ev_neg c1 (ev_neg c2 (ev_neg c3 (ev_pos c4 ?_)))))
  exact Ev.bind e2 (Ev.now _)
 by_cases c5 : r = 5
 ·obtain ⟨x, _, _, e2⟩ := num_ev b (p + 1) [60, (-1)] hb hl (by omega) (by omega) (by simp)
  refine ⟨y, m, d, h, mi, rd [60, (-1)] x, z, p + 1 + 1, by omega, by omega, ?_⟩
  simp only [spec_l4Wrong.f]
  refine Ev.bind e (ev_neg c0 (ev_neg c1 (ev_neg c2 (ev_neg c3 (ev_neg c4 (ev_pos c5 ?_))))))
  exact Ev.bind e2 (Ev.now _)
 ·refine ⟨y, m, d, h, mi, s, z, p + 1, by omega, by omega, ?_⟩
  simp only [spec_l4Wrong.f]
  exact Ev.bind e (ev_neg c0 (ev_neg c1 (ev_neg c2 (ev_neg c3 (ev_neg c4 (ev_neg c5 (Ev.now _)))))))
theorem drawvalid_ex (l : List Int) (h : Bytes l) : ∃ y m d hh mi s z : Int, Ev (fun k => spec_DrawDateValid.f k l) (y, m, d, hh, mi, s, z) := by
 obtain ⟨b, hb, h1, h2⟩ := open_ex l h
 obtain ⟨y, m, d, hh, mi, s, z, q, q0, q1, e1⟩ := l4draw_ex b 0 h1 h2 (by omega) (by omega)
 obtain ⟨y', m', d', hh', mi', s', z', q', q0', q1', e2⟩ := l4wrong_ex b q y m d hh mi s z h1 h2 q0 (by omega)
 obtain ⟨y2, m2, d2, hh2, mi2, s2, z2, q2, q02, q12, e3⟩ := l4wrong_ex b q' y' m' d' hh' mi' s' z' h1 h2 q0' (by omega)
 refine ⟨y2, m2, d2, hh2, mi2, s2, z2, ?_⟩
 simp only [spec_DrawDateValid.f, hb, Option.bind_some]
 refine Ev.bind e1 ?_
 refine Ev.bind e2 ?_
 refine Ev.bind e3 ?_
 exact Ev.now _
theorem drawfmt_ex (l : List Int) (h : Bytes l) : ∃ y m d hh mi s z : Int, Ev (fun k => spec_DrawFormatDate.f k l) (y, m, d, hh, mi, s, z) := by
 obtain ⟨y, m, d, hh, mi, s, z, e⟩ := drawvalid_ex l h
 refine ⟨y, m, d, hh, mi, s, z, ?_⟩
 simp only [spec_DrawFormatDate.f]
 refine Ev.bind e ?_
 exact Ev.now _
def wdB (i : Nat) : List UInt8 := [[84, 104, 117], [70, 114, 105], [83, 97, 116], [83, 117, 110], [77, 111, 110], [84, 117, 101], [87, 101, 100]].getD i [0, 0, 0]
def wkd (n : Int) : ByteArray := S (wdB (n % 7).toNat)
def dayN (y m d : Int) : Int := d - 1 + cum (ix y m)
theorem wkd_cases (n : Int) : n % 7 = 0 ∨ n % 7 = 1 ∨ n % 7 = 2 ∨ n % 7 = 3 ∨ n % 7 = 4 ∨ n % 7 = 5 ∨ n % 7 = 6 := by omega
theorem wkd_rd (n : Int) : rdOf ByteArray.empty ([⟨#[84, 104, 117]⟩, ⟨#[70, 114, 105]⟩, ⟨#[83, 97, 116]⟩, ⟨#[83, 117, 110]⟩, ⟨#[77, 111, 110]⟩, ⟨#[84, 117, 101]⟩, ⟨#[87, 101, 100]⟩] : List ByteArray) (n % 7) = wkd n := by
 unfold wkd
 rcases wkd_cases n with e | e | e | e | e | e | e <;> (rw [e]; rfl)
theorem wkd_size (n : Int) : (wkd n).size = 3 := by
 unfold wkd
 rw [size_S]
 rcases wkd_cases n with e | e | e | e | e | e | e <;> (rw [e]; rfl)
theorem dayN_secs {y m d h mi s z : Int} (H : Valid y m d h mi s z) : dayN y m d = (secs y m d h mi s z + z * 60) / 86400 := by
 obtain ⟨⟨f1, f2, f3, f4, f5, f6, f7, f8, f9, f10⟩, _⟩ := H
 unfold secs dayN
 omega
theorem dayN_nonneg {y m d h mi s z : Int} (H : Valid y m d h mi s z) : 0 ≤ dayN y m d := by
 have := cum_nonneg (ix y m)
 have := H.1.1
 unfold dayN
 omega
theorem impl_wk {y m d h mi s z : Int} (H : Valid y m d h mi s z) : Ev (fun k => impl_WeekdayOf.f k y m d h mi s z) (wkd (dayN y m d)) := by
 have hn := dayN_nonneg H
 obtain ⟨y0, y1, m0, m1⟩ := H.1.ym
 have d1 := H.1.1
 have d2 := H.1.2.1
 have b3 := (dim_bd y m).2
 simp only [impl_WeekdayOf.f]
 refine Ev.bind (valid_ev y m d h mi s z) ?_
 refine ev_pos (decide_eq_true H) ?_
 refine Ev.bind (before_ev d y0 y1 m0 m1 d1 (by omega)) ?_
 refine ev_pos hn (ev_is (congrArg some ?_))
 exact wkd_rd _
theorem spec_wk {y m d h mi s z : Int} (H : Valid y m d h mi s z) : Ev (fun k => spec_WeekdayOf.f k y m d h mi s z) (wkd (dayN y m d)) := by
 have hn := dayN_nonneg H
 have hs := dayN_secs H
 have b1 := H.2.1
 have b2 := H.2.2
 have z1 := H.1.2.2.2.2.2.2.2.2.1
 have z2 := H.1.2.2.2.2.2.2.2.2.2
 have w1 : wrap64 (z * 60) = z * 60 := w64 (by omega) (by omega)
 have w2 : wrap64 (secs y m d h mi s z + z * 60) = secs y m d h mi s z + z * 60 := w64 (by omega) (by omega)
 have w3 : Int.tdiv (secs y m d h mi s z + z * 60) 86400 = (secs y m d h mi s z + z * 60) / 86400 := Int.tdiv_eq_ediv_of_nonneg (by omega)
 have w4 : wrap64 (dayN y m d) = dayN y m d := by
  have : dayN y m d ≤ 1000000 := by omega
  exact w64 (by omega) (by omega)
 have w5 : Int.tmod (dayN y m d) 7 = dayN y m d % 7 := Int.tmod_eq_emod_of_nonneg hn
 simp only [spec_WeekdayOf.f]
 refine Ev.bind (svalid_ev y m d h mi s z) ?_
 refine ev_pos (decide_eq_true H) ?_
 refine ev_bind0 rfl ?_
 refine Ev.bind (sseconds_ev H.1) ?_
 rw [w1, w2, w3, ← hs, w4, w5]
 refine ev_pos (by omega) (ev_pos ?_ (ev_is (congrArg some ?_)))
 ·show dayN y m d % 7 < 7
  omega
 ·exact wkd_rd _
theorem dec_step {n : Nat} {m : Int} {acc R : List UInt8} (hn : n ≤ 100000) (hm : -1000 ≤ m ∧ m ≤ 1000) (ha : acc.length ≤ 100) (hp : 0 < n ∨ 0 < m) (H : Ev (fun k => impl_decimal.l0 k ((n / 10 : Nat) : Int) (m - 1) (S (dg (n % 10) :: acc))) (S R)) :
  Ev (fun k => impl_decimal.l0 k (n : Int) m (S acc)) (S R) := by
 have e1 : Int.tmod (n : Int) 10 = ((n % 10 : Nat) : Int) := by rw [Int.tmod_eq_emod_of_nonneg (by omega)]; omega
 have e2 : Int.tdiv (n : Int) 10 = ((n / 10 : Nat) : Int) := by rw [Int.tdiv_eq_ediv_of_nonneg (by omega)]; omega
 have w1 : wrap64 (((n % 10 : Nat) : Int) + 1) = ((n % 10 + 1 : Nat) : Int) := by rw [w64 (by omega) (by omega)]; omega
 have w2 : wrap64 (((n / 10 : Nat) : Int)) = ((n / 10 : Nat) : Int) := w64 (by omega) (by omega)
 have w3 : wrap64 (m - 1) = m - 1 := w64 (by omega) (by omega)
 have e3 := dg_extract (n % 10) (by omega)
 refine Ev.step (fun k => by rw [impl_decimal.l0]) ?_
 simp only [e1, e2, w1, w2, w3, Int.toNat_natCast, e3, append_S, List.cons_append, List.nil_append, size_S, List.length_cons, List.length_nil]
 clear e1 e2 w1 w2 w3 e3
 by_cases h : (n : Int) > 0
 ·exact ev_pos h (ev_pos (by omega) (ev_pos (by omega) (ev_pos (by omega) (ev_pos (fitsN (by omega)) H))))
 ·exact ev_neg h (ev_pos (by omega) (ev_pos (by omega) (ev_pos (by omega) (ev_pos (by omega) (ev_pos (fitsN (by omega)) H)))))
theorem dec_end {m : Int} (hm : m ≤ 0) (s : ByteArray) : Ev (fun k => impl_decimal.l0 k ((0 : Nat) : Int) m s) s := by
 refine Ev.step (fun k => by rw [impl_decimal.l0]) ?_
 exact ev_neg (by omega) (ev_neg (by omega) (Ev.now _))
theorem idec_two {n : Nat} (h : n < 100) : Ev (fun k => impl_decimal.f k (n : Int) 2) (S (two n)) := by
 simp only [impl_decimal.f]
 refine dec_step (acc := []) (by omega) (by omega) (by simp) (by omega) (dec_step (by omega) (by omega) (by simp) (by omega) ?_)
 have e : n / 10 / 10 = 0 := by omega
 have e2 : n / 10 % 10 = n / 10 := by omega
 rw [e, e2]
 exact dec_end (by omega) _
theorem idec_day {n : Nat} (h0 : 1 ≤ n) (h : n < 100) : Ev (fun k => impl_decimal.f k (n : Int) 1) (S (dayD n)) := by
 simp only [impl_decimal.f]
 unfold dayD
 by_cases h1 : n < 10
 ·rw [if_pos h1]
  refine dec_step (acc := []) (by omega) (by omega) (by simp) (by omega) ?_
  have e : n / 10 = 0 := by omega
  have e2 : n % 10 = n := by omega
  rw [e, e2]
  exact dec_end (by omega) _
 ·rw [if_neg h1]
  refine dec_step (acc := []) (by omega) (by omega) (by simp) (by omega) (dec_step (by omega) (by omega) (by simp) (by omega) ?_)
  have e : n / 10 / 10 = 0 := by omega
  have e2 : n / 10 % 10 = n / 10 := by omega
  rw [e, e2]
  exact dec_end (by omega) _
theorem idec_four {n : Nat} (h0 : 1000 ≤ n) (h : n < 10000) : Ev (fun k => impl_decimal.f k (n : Int) 4) (S (four n)) := by
 simp only [impl_decimal.f]
 refine dec_step (acc := []) (by omega) (by omega) (by simp) (by omega) (dec_step (by omega) (by omega) (by simp) (by omega) (dec_step (by omega) (by omega) (by simp) (by omega) (dec_step (by omega) (by omega) (by simp) (by omega) ?_)))
 have e : n / 10 / 10 / 10 / 10 = 0 := by omega
 have e1 : n / 10 / 10 / 10 % 10 = n / 1000 := by omega
 have e2 : n / 10 / 10 % 10 = n / 100 % 10 := by omega
 rw [e, e1, e2]
 exact dec_end (by omega) _
theorem sdec_more {n : Nat} {acc R : List UInt8} (hn : n ≤ 100000) (ha : acc.length ≤ 100) (hp : 9 < n) (H : Ev (fun k => spec_l13Dec.l0 k ((n / 10 : Nat) : Int) (S (dg (n % 10) :: acc))) (S R)) :
  Ev (fun k => spec_l13Dec.l0 k (n : Int) (S acc)) (S R) := by
 have e1 : Int.tmod (n : Int) 10 = ((n % 10 : Nat) : Int) := by rw [Int.tmod_eq_emod_of_nonneg (by omega)]; omega
 have e2 : Int.tdiv (n : Int) 10 = ((n / 10 : Nat) : Int) := by rw [Int.tdiv_eq_ediv_of_nonneg (by omega)]; omega
 have w2 : wrap64 (((n / 10 : Nat) : Int)) = ((n / 10 : Nat) : Int) := w64 (by omega) (by omega)
 have e3 := dg_str (n := n % 10) (by omega)
 refine Ev.step (fun k => by rw [spec_l13Dec.l0]) ?_
 simp only [e1, e2, w2, Option.bind_some, e3, append_S, List.cons_append, List.nil_append, size_S, List.length_cons, List.length_nil]
 clear e1 e2 w2 e3
 exact ev_pos (by omega) (ev_pos (fitsN (by omega)) H)
theorem sdec_last {n : Nat} {acc : List UInt8} (ha : acc.length ≤ 100) (hp : n < 10) : Ev (fun k => spec_l13Dec.l0 k (n : Int) (S acc)) (S (dg n :: acc)) := by
 have e3 := dg_str hp
 refine Ev.step (fun k => by rw [spec_l13Dec.l0]) ?_
 simp only [Option.bind_some, e3, append_S, List.cons_append, List.nil_append, size_S, List.length_cons, List.length_nil]
 clear e3
 exact ev_neg (by omega) (ev_pos (fitsN (by omega)) (Ev.now _))
theorem sdec_f {n : Nat} {r : ByteArray} (H : Ev (fun k => spec_l13Dec.l0 k (n : Int) (S [])) r) : Ev (fun k => spec_l13Dec.f k (n : Int)) r := by
 refine Ev.step (fun k => by rw [spec_l13Dec.f]) ?_
 exact ev_neg (by omega) (ev_neg (by omega) H)
theorem sdec_one {n : Nat} (h : n < 10) : Ev (fun k => spec_l13Dec.f k (n : Int)) (S [dg n]) := sdec_f (sdec_last (by simp) h)
theorem sdec_day {n : Nat} (h : n < 100) : Ev (fun k => spec_l13Dec.f k (n : Int)) (S (dayD n)) := by
 unfold dayD
 by_cases h1 : n < 10
 ·rw [if_pos h1]
  exact sdec_one h1
 ·rw [if_neg h1]
  exact sdec_f (sdec_more (by omega) (by simp) (by omega) (sdec_last (by simp) (by omega)))
theorem sdec_four {n : Nat} (h0 : 1000 ≤ n) (h : n < 10000) : Ev (fun k => spec_l13Dec.f k (n : Int)) (S (four n)) := by
 refine sdec_f (sdec_more (by omega) (by simp) (by omega) (sdec_more (by omega) (by simp) (by omega) (sdec_more (by omega) (by simp) (by omega) ?_)))
 have e1 : n / 10 / 10 / 10 = n / 1000 := by omega
 have e2 : n / 10 / 10 % 10 = n / 100 % 10 := by omega
 rw [e1, e2]
 exact sdec_last (by simp) (by omega)
theorem stwo_ev {n : Nat} (h : n < 100) : Ev (fun k => spec_l4Two.f k (n : Int)) (S (two n)) := by
 have e1 : Int.tmod (n : Int) 10 = ((n % 10 : Nat) : Int) := by rw [Int.tmod_eq_emod_of_nonneg (by omega)]; omega
 have e2 : Int.tdiv (n : Int) 10 = ((n / 10 : Nat) : Int) := by rw [Int.tdiv_eq_ediv_of_nonneg (by omega)]; omega
 have w2 : wrap64 (((n / 10 : Nat) : Int)) = ((n / 10 : Nat) : Int) := w64 (by omega) (by omega)
 simp only [spec_l4Two.f, e1, e2, w2]
 refine Ev.bind (sdec_one (by omega)) (Ev.bind (sdec_one (by omega)) ?_)
 simp only [append_S, size_S]
 exact ev_pos (fitsN (by simp)) (Ev.now _)
theorem e44 : (⟨#[44, 32]⟩ : ByteArray) = S [44, 32] := rfl
theorem e32 : (⟨#[32]⟩ : ByteArray) = S [32] := rfl
theorem e58 : (⟨#[58]⟩ : ByteArray) = S [58] := rfl
theorem zone_bits (z : Int) (h0 : -720 ≤ z) (h1 : z ≤ 840) : absZ z < 841 ∧ ((z < 0 → wrap64 (-z) = ((absZ z : Nat) : Int)) ∧ (¬ z < 0 → z = ((absZ z : Nat) : Int))) := by
 unfold absZ
 refine ⟨by omega, fun h => ?_, fun h => by omega⟩
 rw [w64 (by omega) (by omega)]
 omega
theorem ifmt_j {x3 W : List UInt8} {Z : Nat} {y m d h mi s z : Int} (H : Valid y m d h mi s z) (hx : x3.length ≤ 2) (hW : wkd (dayN y m d) = S W) (hWl : W.length = 3) (hz : Z < 841) :
  Ev (fun k => impl_FormatDate.j0 k (S x3) (Z : Int) y m d h mi s z) (S (W ++ [44, 32] ++ dayD d.toNat ++ [32] ++ monB (m - 1).toNat ++ [32] ++ four y.toNat ++ [32] ++ two h.toNat ++ [58] ++ two mi.toNat ++ [58] ++ two s.toNat ++ x3 ++ two (Z / 60) ++ two (Z % 60))) := by
 obtain ⟨y0, y1, m0, m1⟩ := H.1.ym
 obtain ⟨f1, f2, f3, f4, f5, f6, f7, f8, f9, f10⟩ := H.1
 have b3 := (dim_bd y m).2
 have hk := impl_wk H
 rw [hW] at hk
 have r1 : rdOf ByteArray.empty monL (((m - 1).toNat : Nat) : Int) = S (monB (m - 1).toNat) := monB_rd (by omega)
 have l1 : (monB (m - 1).toNat).length = 3 := monB_len (by omega)
 have l2 := dayD_len d.toNat
 have hD := idec_day (n := d.toNat) (by omega) (by omega)
 have hY := idec_four (n := y.toNat) (by omega) (by omega)
 have hH := idec_two (n := h.toNat) (by omega)
 have hI := idec_two (n := mi.toNat) (by omega)
 have hS := idec_two (n := s.toNat) (by omega)
 have hP := idec_two (n := Z / 60) (by omega)
 have hQ := idec_two (n := Z % 60) (by omega)
 rw [show ((d.toNat : Nat) : Int) = d by omega] at hD
 rw [show ((y.toNat : Nat) : Int) = y by omega] at hY
 rw [show ((h.toNat : Nat) : Int) = h by omega] at hH
 rw [show ((mi.toNat : Nat) : Int) = mi by omega] at hI
 rw [show ((s.toNat : Nat) : Int) = s by omega] at hS
 have b1 : (0 : Int) ≤ (((m - 1).toNat : Nat) : Int) ∧ (((m - 1).toNat : Nat) : Int) < 12 := by omega
 obtain ⟨w1, t1, t2, w2⟩ : wrap64 (m - 1) = (((m - 1).toNat : Nat) : Int) ∧ Int.tdiv (Z : Int) 60 = ((Z / 60 : Nat) : Int) ∧ Int.tmod (Z : Int) 60 = ((Z % 60 : Nat) : Int) ∧ wrap64 (((Z / 60 : Nat) : Int)) = ((Z / 60 : Nat) : Int) :=
  ⟨by rw [w64 (by omega) (by omega)]; omega, by rw [Int.tdiv_eq_ediv_of_nonneg (by omega)]; omega, by rw [Int.tmod_eq_emod_of_nonneg (by omega)]; omega, w64 (by omega) (by omega)⟩
 refine Ev.step (fun k => by rw [impl_FormatDate.j0]) ?_
 simp only [e44, e32, e58, w1, t1, t2, w2, r1]
 clear w1 t1 t2 w2 r1
 generalize monB (m - 1).toNat = M at l1 ⊢
 generalize dayD d.toNat = D at l2 hD ⊢
 have q4 := four_len y.toNat
 generalize four y.toNat = Y at q4 hY ⊢
 have q5 := two_len h.toNat
 generalize two h.toNat = HH at q5 hH ⊢
 have q6 := two_len mi.toNat
 generalize two mi.toNat = MM at q6 hI ⊢
 have q7 := two_len s.toNat
 generalize two s.toNat = SS at q7 hS ⊢
 have q8 := two_len (Z / 60)
 generalize two (Z / 60) = PP at q8 hP ⊢
 have q9 := two_len (Z % 60)
 generalize two (Z % 60) = QQ at q9 hQ ⊢
 have sz : ∀ {a b : List UInt8}, a.length + b.length ≤ 1000 → (S a).size + (S b).size ≤ 9223372036854775807 := fun h => by rw [size_S, size_S]; exact fitsN h
 have s1 : ∀ {a : List UInt8} {n : Nat}, a.length + n ≤ 1000 → (S a).size + n ≤ 9223372036854775807 := fun h => by rw [size_S]; exact fitsN h
 refine Ev.bind hk (ev_pos (s1 (by omega)) (Ev.bind hD ?_))
 simp only [append_S]
 refine ev_pos (sz (by simp; omega)) (ev_pos (s1 (by simp; omega)) (ev_pos b1.1 (ev_pos b1.2 (ev_pos (sz (by simp; omega)) (ev_pos (s1 (by simp; omega)) (Ev.bind hY ?_))))))
 simp only [append_S]
 refine ev_pos (sz (by simp; omega)) (ev_pos (s1 (by simp; omega)) (Ev.bind hH ?_))
 simp only [append_S]
 refine ev_pos (sz (by simp; omega)) (ev_pos (s1 (by simp; omega)) (Ev.bind hI ?_))
 simp only [append_S]
 refine ev_pos (sz (by simp; omega)) (ev_pos (s1 (by simp; omega)) (Ev.bind hS ?_))
 simp only [append_S]
 refine ev_pos (sz (by simp; omega)) (ev_pos (sz (by simp; omega)) (Ev.bind hP ?_))
 simp only [append_S]
 refine ev_pos (sz (by simp; omega)) (Ev.bind hQ ?_)
 simp only [append_S]
 exact ev_pos (sz (by simp; omega)) (Ev.now _)
theorem sfmt_j {x3 W : List UInt8} {Z : Nat} {y m d h mi s z : Int} (H : Valid y m d h mi s z) (hx : x3.length ≤ 2) (hW : wkd (dayN y m d) = S W) (hWl : W.length = 3) (hz : Z < 841) :
  Ev (fun k => spec_FormatDate.j0 k (S x3) (Z : Int) y m d h mi s z) (S (W ++ [44, 32] ++ dayD d.toNat ++ [32] ++ monB (m - 1).toNat ++ [32] ++ four y.toNat ++ [32] ++ two h.toNat ++ [58] ++ two mi.toNat ++ [58] ++ two s.toNat ++ [32] ++ x3 ++ two (Z / 60) ++ two (Z % 60))) := by
 obtain ⟨y0, y1, m0, m1⟩ := H.1.ym
 obtain ⟨f1, f2, f3, f4, f5, f6, f7, f8, f9, f10⟩ := H.1
 have b3 := (dim_bd y m).2
 have hk := spec_wk H
 rw [hW] at hk
 have r1 : rdOf ByteArray.empty monL (((m - 1).toNat : Nat) : Int) = S (monB (m - 1).toNat) := monB_rd (by omega)
 have rl : (monL.length : Int) = 12 := rfl
 have rm : spec_l4Months.f = some monL := rfl
 have l1 : (monB (m - 1).toNat).length = 3 := monB_len (by omega)
 have l2 := dayD_len d.toNat
 have hD := sdec_day (n := d.toNat) (by omega)
 have hY := sdec_four (n := y.toNat) (by omega) (by omega)
 have hH := stwo_ev (n := h.toNat) (by omega)
 have hI := stwo_ev (n := mi.toNat) (by omega)
 have hS := stwo_ev (n := s.toNat) (by omega)
 have hP := stwo_ev (n := Z / 60) (by omega)
 have hQ := stwo_ev (n := Z % 60) (by omega)
 rw [show ((d.toNat : Nat) : Int) = d by omega] at hD
 rw [show ((y.toNat : Nat) : Int) = y by omega] at hY
 rw [show ((h.toNat : Nat) : Int) = h by omega] at hH
 rw [show ((mi.toNat : Nat) : Int) = mi by omega] at hI
 rw [show ((s.toNat : Nat) : Int) = s by omega] at hS
 have b1 : (0 : Int) ≤ (((m - 1).toNat : Nat) : Int) ∧ (((m - 1).toNat : Nat) : Int) < 12 := by omega
 obtain ⟨w1, t1, t2, w2⟩ : wrap64 (m - 1) = (((m - 1).toNat : Nat) : Int) ∧ Int.tdiv (Z : Int) 60 = ((Z / 60 : Nat) : Int) ∧ Int.tmod (Z : Int) 60 = ((Z % 60 : Nat) : Int) ∧ wrap64 (((Z / 60 : Nat) : Int)) = ((Z / 60 : Nat) : Int) :=
  ⟨by rw [w64 (by omega) (by omega)]; omega, by rw [Int.tdiv_eq_ediv_of_nonneg (by omega)]; omega, by rw [Int.tmod_eq_emod_of_nonneg (by omega)]; omega, w64 (by omega) (by omega)⟩
 refine Ev.step (fun k => by rw [spec_FormatDate.j0]) ?_
 simp only [e44, e32, e58, w1, t1, t2, w2, rm, Option.bind_some, r1, rl]
 clear w1 t1 t2 w2 r1 rl rm
 generalize monB (m - 1).toNat = M at l1 ⊢
 generalize dayD d.toNat = D at l2 hD ⊢
 have q4 := four_len y.toNat
 generalize four y.toNat = Y at q4 hY ⊢
 have q5 := two_len h.toNat
 generalize two h.toNat = HH at q5 hH ⊢
 have q6 := two_len mi.toNat
 generalize two mi.toNat = MM at q6 hI ⊢
 have q7 := two_len s.toNat
 generalize two s.toNat = SS at q7 hS ⊢
 have q8 := two_len (Z / 60)
 generalize two (Z / 60) = PP at q8 hP ⊢
 have q9 := two_len (Z % 60)
 generalize two (Z % 60) = QQ at q9 hQ ⊢
 have sz : ∀ {a b : List UInt8}, a.length + b.length ≤ 1000 → (S a).size + (S b).size ≤ 9223372036854775807 := fun h => by rw [size_S, size_S]; exact fitsN h
 have s1 : ∀ {a : List UInt8} {n : Nat}, a.length + n ≤ 1000 → (S a).size + n ≤ 9223372036854775807 := fun h => by rw [size_S]; exact fitsN h
 refine Ev.bind hk (ev_pos (s1 (by omega)) (Ev.bind hD ?_))
 simp only [append_S]
 refine ev_pos (sz (by simp; omega)) (ev_pos (s1 (by simp; omega)) (ev_pos b1.1 (ev_pos b1.2 (ev_pos (sz (by simp; omega)) (ev_pos (s1 (by simp; omega)) (Ev.bind hY ?_))))))
 simp only [append_S]
 refine ev_pos (sz (by simp; omega)) (ev_pos (s1 (by simp; omega)) (Ev.bind hH ?_))
 simp only [append_S]
 refine ev_pos (sz (by simp; omega)) (ev_pos (s1 (by simp; omega)) (Ev.bind hI ?_))
 simp only [append_S]
 refine ev_pos (sz (by simp; omega)) (ev_pos (s1 (by simp; omega)) (Ev.bind hS ?_))
 simp only [append_S]
 refine ev_pos (sz (by simp; omega)) (ev_pos (s1 (by simp; omega)) (ev_pos (sz (by simp; omega)) (Ev.bind hP ?_)))
 simp only [append_S]
 refine ev_pos (sz (by simp; omega)) (Ev.bind hQ ?_)
 simp only [append_S]
 exact ev_pos (sz (by simp; omega)) (Ev.now _)
theorem wkd_S (n : Int) : ∃ W, wkd n = S W ∧ W.length = 3 := ⟨wdB (n % 7).toNat, rfl, by have := wkd_size n; unfold wkd at this; rwa [size_S] at this⟩
theorem fmt_ev {y m d h mi s z : Int} (H : Valid y m d h mi s z) : ∃ W, wkd (dayN y m d) = S W ∧ W.length = 3 ∧ Ev (fun k => impl_FormatDate.f k y m d h mi s z) (S (fmtL W y m d h mi s z)) ∧ Ev (fun k => spec_FormatDate.f k y m d h mi s z) (S (fmtL W y m d h mi s z)) := by
 obtain ⟨W, hW, hWl⟩ := wkd_S (dayN y m d)
 have z1 := H.1.2.2.2.2.2.2.2.2.1
 have z2 := H.1.2.2.2.2.2.2.2.2.2
 obtain ⟨a1, a2, a3⟩ := zone_bits z z1 z2
 have em : (⟨#[32, 45]⟩ : ByteArray) = S [32, 45] := rfl
 have ep : (⟨#[32, 43]⟩ : ByteArray) = S [32, 43] := rfl
 have em1 : (⟨#[45]⟩ : ByteArray) = S [45] := rfl
 have ep1 : (⟨#[43]⟩ : ByteArray) = S [43] := rfl
 refine ⟨W, hW, hWl, ?_, ?_⟩
 ·simp only [impl_FormatDate.f, em, ep]
  refine Ev.bind (valid_ev y m d h mi s z) (ev_pos (decide_eq_true H) ?_)
  by_cases hz : z < 0
  ·refine ev_pos hz ?_
   rw [a2 hz]
   refine ev_eq ?_ (ifmt_j (x3 := [32, 45]) H (by simp) hW hWl a1)
   unfold fmtL headL zoneL sgn
   rw [if_pos hz]
   simp
  ·refine ev_neg hz ?_
   have e : Ev (fun k => impl_FormatDate.j0 k (S [32, 43]) ((absZ z : Nat) : Int) y m d h mi s z) _ := ifmt_j (x3 := [32, 43]) H (by simp) hW hWl a1
   rw [← a3 hz] at e
   refine ev_eq ?_ e
   unfold fmtL headL zoneL sgn
   rw [if_neg hz]
   simp
 ·simp only [spec_FormatDate.f, em1, ep1]
  refine Ev.bind (svalid_ev y m d h mi s z) (ev_pos (decide_eq_true H) ?_)
  by_cases hz : z < 0
  ·refine ev_pos hz ?_
   rw [a2 hz]
   refine ev_eq ?_ (sfmt_j (x3 := [45]) H (by simp) hW hWl a1)
   unfold fmtL headL zoneL sgn
   rw [if_pos hz]
   simp
  ·refine ev_neg hz ?_
   have e : Ev (fun k => spec_FormatDate.j0 k (S [43]) ((absZ z : Nat) : Int) y m d h mi s z) _ := sfmt_j (x3 := [43]) H (by simp) hW hWl a1
   rw [← a3 hz] at e
   refine ev_eq ?_ e
   unfold fmtL headL zoneL sgn
   rw [if_neg hz]
   simp
theorem ifmt_no {y m d h mi s z : Int} (H : ¬ Valid y m d h mi s z) : Ev (fun k => impl_FormatDate.f k y m d h mi s z) (S []) := by
 simp only [impl_FormatDate.f]
 exact Ev.bind (valid_ev y m d h mi s z) (ev_neg (by simpa using H) (Ev.now _))
theorem sfmt_no {y m d h mi s z : Int} (H : ¬ Valid y m d h mi s z) : Ev (fun k => spec_FormatDate.f k y m d h mi s z) (S []) := by
 simp only [spec_FormatDate.f]
 exact Ev.bind (svalid_ev y m d h mi s z) (ev_neg (by simpa using H) (Ev.now _))
theorem drawparse_ex (l : List Int) (h : Bytes l) : ∃ s : List UInt8, s.length ≤ 1000000 ∧ Ev (fun k => spec_DrawParseDate.f k l) (S s) := by
 obtain ⟨b, e1, hb, hl⟩ := open_ex l h
 obtain ⟨r, _, _, e2⟩ := pick_ev b 0 4 hb hl (by omega) (by omega) (by omega)
 simp only [spec_DrawParseDate.f, e1, Option.bind_some]
 by_cases hr : r = 0
 ·obtain ⟨x, hx, e3⟩ := of_ev b (0 + 1) [(⟨#[53, 32, 106, 97, 110, 32, 50, 48, 50, 54, 32, 48, 55, 58, 48, 56, 32, 71, 77, 84]⟩ : ByteArray), (⟨#[77, 111, 110, 44, 32, 32, 53, 32, 32, 74, 97, 110, 32, 50, 48, 50, 54, 32, 48, 55, 58, 48, 56, 58, 48, 57, 32, 43, 48, 49, 48, 48]⟩ : ByteArray), (⟨#[84, 117, 101, 44, 32, 53, 32, 74, 97, 110, 32, 50, 48, 50, 54, 32, 48, 55, 58, 48, 56, 58, 48, 57, 32, 43, 48, 49, 48, 48]⟩ : ByteArray), (⟨#[48, 53, 32, 74, 97, 110, 32, 50, 48, 50, 54, 32, 48, 55, 58, 48, 56, 58, 48, 57, 32, 85, 84]⟩ : ByteArray), (⟨#[50, 57, 32, 70, 101, 98, 32, 50, 48, 50, 51, 32, 48, 48, 58, 48, 48, 32, 71, 77, 84]⟩ : ByteArray), (⟨#[49, 32, 74, 97, 110, 32, 49, 57, 55, 48, 32, 48, 48, 58, 48, 48, 58, 48, 48, 32, 43, 48, 49, 48, 48]⟩ : ByteArray)] hb hl (by omega) (by omega) (by simp)
  have hs : x.size ≤ 50 := by
   simp only [List.mem_cons, List.not_mem_nil, or_false] at hx
   rcases hx with rfl | rfl | rfl | rfl | rfl | rfl <;> decide
  obtain ⟨s, rfl⟩ := ex_S x
  rw [size_S] at hs
  exact ⟨s, by omega, Ev.bind e2 (ev_pos hr (Ev.bind e3 (Ev.now _)))⟩
 ·obtain ⟨y, m, d, hh, mi, s, z, q, q0, q1, e3⟩ := l4draw_ex b (0 + 1) hb hl (by omega) (by omega)
  obtain ⟨F, hF, e4⟩ : ∃ F : List UInt8, F.length ≤ 1000 ∧ Ev (fun k => spec_FormatDate.f k y m d hh mi s z) (S F) := by
   by_cases H : Valid y m d hh mi s z
   ·obtain ⟨W, _, hWl, _, hs⟩ := fmt_ev H
    obtain ⟨_, _, m0, m1⟩ := H.1.ym
    have := headL_len (y := y) (d := d) (h := hh) (mi := mi) (s := s) hWl ⟨m0, m1⟩
    refine ⟨_, ?_, hs⟩
    unfold fmtL
    rw [List.length_append, zoneL_len]
    omega
   ·exact ⟨[], by simp, sfmt_no H⟩
  obtain ⟨t, q', ht, _, _, e5⟩ := bend_ex b q (S F) [(⟨#[]⟩ : ByteArray), (⟨#[32]⟩ : ByteArray), (⟨#[44]⟩ : ByteArray), (⟨#[48]⟩ : ByteArray), (⟨#[58]⟩ : ByteArray), (⟨#[43]⟩ : ByteArray)] hb hl q0 (by omega) (by simp) (by
   intro x hx
   simp only [List.mem_cons, List.not_mem_nil, or_false] at hx
   rcases hx with rfl | rfl | rfl | rfl | rfl | rfl <;> decide) (by rw [size_S]; omega)
  obtain ⟨u, rfl⟩ := ex_S t
  rw [size_S, size_S] at ht
  exact ⟨u, by omega, Ev.bind e2 (ev_neg hr (Ev.bind e3 (Ev.bind e4 (Ev.bind e5 (Ev.now _)))))⟩
theorem dw_nil (s : List UInt8) : s.dropWhile (· == 32) = [] ↔ ∀ x ∈ s, (x == 32) = true := by
 induction s with
 | nil => exact ⟨fun _ x hx => (by cases hx), fun _ => rfl⟩
 | cons c r ih =>
  rw [List.dropWhile_cons]
  by_cases hc : (c == 32) = true
  ·rw [if_pos hc, ih]
   exact ⟨fun h x hx => by
    rcases List.mem_cons.1 hx with rfl | hx
    ·exact hc
    ·exact h x hx, fun h x hx => h x (by simp [hx])⟩
  ·rw [if_neg hc]
   exact ⟨fun h => (by cases h), fun h => absurd (h c (by simp)) hc⟩
theorem trim_trimB (s : List UInt8) : trim s = Lib.trimB s 32 := by
 have e : Lib.trimB s 32 = trimL (trimR s) := rfl
 rw [e]
 unfold trim
 have split : ∀ s : List UInt8, trimR (trimL s) = trimL (trimR s) := by
  intro s
  induction s with
  | nil => rfl
  | cons c r ih =>
   by_cases hc : (c == 32) = true
   ·have h1 : trimL (c :: r) = trimL r := by unfold trimL; rw [List.dropWhile_cons, if_pos hc]
    rw [h1, ih]
    by_cases hr : ∀ x ∈ r, (x == 32) = true
    ·have a1 : trimR r = [] := by
      unfold trimR
      rw [List.reverse_eq_nil_iff, dw_nil]
      intro x hx
      exact hr x (List.mem_reverse.1 hx)
     have a2 : trimR (c :: r) = [] := by
      unfold trimR
      rw [List.reverse_eq_nil_iff, dw_nil]
      intro x hx
      rcases List.mem_cons.1 (List.mem_reverse.1 hx) with rfl | hx
      ·exact hc
      ·exact hr x hx
     rw [a1, a2]
    ·have a3 : trimR (c :: r) = c :: trimR r := by
      unfold trimR
      have hne : r.reverse.dropWhile (· == 32) ≠ [] := by
       intro q
       rw [dw_nil] at q
       exact hr (fun x hx => q x (List.mem_reverse.2 hx))
      rw [List.reverse_cons, List.dropWhile_append, if_neg (by simpa using hne)]
      simp
     rw [a3]
     show trimL (trimR r) = trimL (c :: trimR r)
     unfold trimL
     rw [List.dropWhile_cons, if_pos hc]
   ·have h1 : trimL (c :: r) = c :: r := by unfold trimL; rw [List.dropWhile_cons, if_neg hc]
    rw [h1]
    obtain ⟨t, ht⟩ : ∃ t, trimR (c :: r) = c :: t := by
     unfold trimR
     rw [List.reverse_cons]
     by_cases hne : r.reverse.dropWhile (· == 32) = []
     ·refine ⟨[], ?_⟩
      rw [List.dropWhile_append, if_pos (by rw [hne]; rfl), List.dropWhile_cons, if_neg hc]
      rfl
     ·refine ⟨(r.reverse.dropWhile (· == 32)).reverse, ?_⟩
      rw [List.dropWhile_append, if_neg (by simpa using hne)]
      simp
    rw [ht]
    unfold trimL
    rw [List.dropWhile_cons, if_neg hc]
 exact split s
theorem impl_text (s : List UInt8) (hl : s.length ≤ 1000000000000) : Ev (fun k => impl_TextValid.f k (S s)) (decide (textOK s)) := by
 simp only [impl_TextValid.f, size_S]
 have loop : ∀ (e i : Nat), i + e = s.length → (∀ j (h : j < s.length), j < i → 32 ≤ s[j].toNat ∧ s[j].toNat ≤ 126) → Ev (fun k => impl_TextValid.l0 k (S s) (s.length : Int) (i : Int)) (decide (textOK s)) := by
  intro e
  induction e with
  | zero =>
   intro i hi hp
   have e1 : decide ((s.length : Int) ≤ 200) = decide (textOK s) := by
    rw [decide_eq_decide]
    constructor
    ·intro q
     refine ⟨by omega, fun c hc => ?_⟩
     obtain ⟨j, hj, rfl⟩ := List.mem_iff_getElem.1 hc
     exact hp j hj (by omega)
    ·intro q
     have := q.1
     omega
   refine Ev.step (fun k => by rw [impl_TextValid.l0]) ?_
   rw [size_S, e1]
   exact ev_neg (by omega) (Ev.now _)
  | succ e ih =>
   intro i hi hp
   have hlt : i < s.length := by omega
   have hg : s.getD i 0 = s[i] := by rw [List.getD_eq_getElem?_getD, List.getElem?_eq_getElem hlt]; rfl
   have w : wrap64 ((i : Int) + 1) = ((i + 1 : Nat) : Int) := by rw [w64 (by omega) (by omega)]; omega
   refine Ev.step (fun k => by rw [impl_TextValid.l0]) ?_
   simp only [size_S, bt_S, Int.toNat_natCast, hg, w]
   refine ev_pos (by omega) (ev_pos (by omega) (ev_pos (by omega) ?_))
   by_cases hc : 32 ≤ s[i].toNat ∧ s[i].toNat ≤ 126
   ·refine ev_neg (by omega) (ev_neg (by omega) (ih (i + 1) (by omega) ?_))
    intro j hj hji
    by_cases q : j = i
    ·subst q
     exact hc
    ·exact hp j hj (by omega)
   ·have e1 : decide (textOK s) = false := decide_eq_false (fun q => hc (q.2 s[i] (List.getElem_mem hlt)))
    rw [e1]
    by_cases h3 : (s[i].toNat : Int) < 32
    ·exact ev_pos h3 (Ev.now _)
    ·exact ev_neg h3 (ev_pos (by omega) (Ev.now _))
 exact loop s.length 0 (by omega) (fun j _ h => by omega)
theorem spec_text (s : List UInt8) (hl : s.length ≤ 1000000000000) : Ev (fun k => spec_TextValid.f k (S s)) (decide (textOK s)) := by
 simp only [spec_TextValid.f]
 have loop : ∀ (e i : Nat), i + e = s.length → i ≤ 201 → (∀ j (h : j < s.length), j < i → 32 ≤ s[j].toNat ∧ s[j].toNat ≤ 126) → Ev (fun k => spec_TextValid.l0 k (S s) (i : Int)) (decide (textOK s)) := by
  intro e
  induction e with
  | zero =>
   intro i hi h2 hp
   have e1 : decide ((s.length : Int) ≤ 200) = decide (textOK s) := by
    rw [decide_eq_decide]
    constructor
    ·intro q
     refine ⟨by omega, fun c hc => ?_⟩
     obtain ⟨j, hj, rfl⟩ := List.mem_iff_getElem.1 hc
     exact hp j hj (by omega)
    ·intro q
     have := q.1
     omega
   refine Ev.step (fun k => by rw [spec_TextValid.l0]) ?_
   rw [size_S]
   refine ev_neg (by omega) ?_
   refine Ev.step (fun k => by rw [spec_TextValid.j1]) ?_
   rw [size_S, e1]
   exact ev_neg (by decide) (Ev.now _)
  | succ e ih =>
   intro i hi h2 hp
   have hlt : i < s.length := by omega
   have hg : s.getD i 0 = s[i] := by rw [List.getD_eq_getElem?_getD, List.getElem?_eq_getElem hlt]; rfl
   have w : wrap64 ((i : Int) + 1) = ((i + 1 : Nat) : Int) := by rw [w64 (by omega) (by omega)]; omega
   refine Ev.step (fun k => by rw [spec_TextValid.l0]) ?_
   rw [size_S]
   refine ev_pos (by omega) ?_
   by_cases h200 : i ≤ 200
   ·rw [decide_eq_true (show (i : Int) ≤ 200 by omega)]
    refine Ev.step (fun k => by rw [spec_TextValid.j1]) ?_
    simp only [size_S, bt_S, Int.toNat_natCast, hg, w]
    refine ev_pos trivial (ev_pos (by omega) (ev_pos (by omega) ?_))
    by_cases hc : 32 ≤ s[i].toNat ∧ s[i].toNat ≤ 126
    ·refine ev_neg (by omega) (ev_neg (by omega) (ih (i + 1) (by omega) (by omega) ?_))
     intro j hj hji
     by_cases q : j = i
     ·subst q
      exact hc
     ·exact hp j hj (by omega)
    ·have e1 : decide (textOK s) = false := decide_eq_false (fun q => hc (q.2 s[i] (List.getElem_mem hlt)))
     rw [e1]
     by_cases h3 : (s[i].toNat : Int) < 32
     ·exact ev_pos h3 (Ev.now _)
     ·exact ev_neg h3 (ev_pos (by omega) (Ev.now _))
   ·rw [decide_eq_false (show ¬ (i : Int) ≤ 200 by omega)]
    have e1 : decide (textOK s) = false := decide_eq_false (fun q => by have := q.1; omega)
    refine Ev.step (fun k => by rw [spec_TextValid.j1]) ?_
    rw [size_S, e1]
    refine ev_neg (by decide) (ev_is ?_)
    rw [decide_eq_false (by omega)]
 exact loop s.length 0 (by omega) (by omega) (fun j _ h => by omega)
theorem spec_trimR (n : Nat) : ∀ s : List UInt8, s.length ≤ n → s.length ≤ 1000000000000 → Ev (fun k => spec_l2Trim.l1 k (S s)) (S (trimR s)) := by
 induction n with
 | zero =>
  intro s h _
  have : s = [] := List.eq_nil_of_length_eq_zero (by omega)
  subst this
  refine Ev.step (fun k => by rw [spec_l2Trim.l1]) ?_
  exact ev_neg (by decide) (Ev.now _)
 | succ n ih =>
  intro s h hl
  rcases List.eq_nil_or_concat s with rfl | ⟨t, c, rfl⟩
  ·refine Ev.step (fun k => by rw [spec_l2Trim.l1]) ?_
   exact ev_neg (by decide) (Ev.now _)
  ·rw [List.concat_eq_append] at h hl ⊢
   rw [List.length_append] at h hl
   simp only [List.length_cons, List.length_nil] at h hl
   have w : wrap64 (((t.length + 1 : Nat) : Int) - 1) = (t.length : Int) := by rw [w64 (by omega) (by omega)]; omega
   have hg : (t ++ [c]).getD t.length 0 = c := by simp
   have hx : ((t ++ [c]).drop 0).take (t.length - 0) = t := by simp
   refine Ev.step (fun k => by rw [spec_l2Trim.l1]) ?_
   simp only [size_S, List.length_append, List.length_cons, List.length_nil, Nat.zero_add, w, bt_S, Int.toNat_natCast, hg, extract_S, hx]
   rw [trimR_snoc]
   refine ev_pos (by omega) (ev_pos (by omega) (ev_pos (by omega) ?_))
   by_cases hc : (c.toNat : Int) = 32
   ·rw [if_pos (show c = 32 from (u8_is (n := 32) (by omega)).1 hc)]
    exact ev_pos hc (ev_pos (by omega) (ih t (by omega) (by omega)))
   ·rw [if_neg (fun q => hc (by rw [q]; rfl))]
    exact ev_neg hc (Ev.now _)
theorem spec_trim (s : List UInt8) (hl : s.length ≤ 1000000000000) : Ev (fun k => spec_l2Trim.f k (S s)) (S (trim s)) := by
 simp only [spec_l2Trim.f]
 have j : ∀ t : List UInt8, t.length ≤ 1000000000000 → Ev (fun k => spec_l2Trim.j1 k (S t)) (S (trimR t)) := by
  intro t ht
  refine Ev.step (fun k => by rw [spec_l2Trim.j1]) ?_
  exact spec_trimR t.length t (Nat.le_refl _) ht
 have loop : ∀ (n : Nat) (s : List UInt8), s.length ≤ n → s.length ≤ 1000000000000 → Ev (fun k => spec_l2Trim.l0 k (S s)) (S (trim s)) := by
  intro n
  induction n with
  | zero =>
   intro s h h2
   have : s = [] := List.eq_nil_of_length_eq_zero (by omega)
   subst this
   refine Ev.step (fun k => by rw [spec_l2Trim.l0]) ?_
   exact ev_neg (by decide) (j [] h2)
  | succ n ih =>
   intro s h h2
   cases s with
   | nil =>
    refine Ev.step (fun k => by rw [spec_l2Trim.l0]) ?_
    exact ev_neg (by decide) (j [] h2)
   | cons c r =>
    simp only [List.length_cons] at h h2
    have hg : bt (S (c :: r)) 0 = (c.toNat : Int) := by rw [bt_S]; rfl
    have hx : ((c :: r).drop 1).take (r.length + 1 - 1) = r := by simp
    refine Ev.step (fun k => by rw [spec_l2Trim.l0]) ?_
    simp only [size_S, List.length_cons, hg, extract_S, hx]
    refine ev_pos (by omega) (ev_pos (by omega) ?_)
    have hd : trim (c :: r) = if c = 32 then trim r else trimR (c :: r) := by
     unfold trim trimL
     rw [List.dropWhile_cons]
     by_cases q : c = 32
     ·rw [if_pos q, if_pos (by simp [q])]
     ·rw [if_neg q, if_neg (by simp [q])]
    rw [hd]
    by_cases hc : (c.toNat : Int) = 32
    ·rw [if_pos (show c = 32 from (u8_is (n := 32) (by omega)).1 hc)]
     exact ev_pos hc (ev_pos (by omega) (ih r (by omega) (by omega)))
    ·rw [if_neg (fun q => hc (by rw [q]; rfl))]
     exact ev_neg hc (j (c :: r) (by simp; omega))
 exact loop s.length s (Nat.le_refl _) hl
theorem l2parts_loop (c : UInt8) (s : List UInt8) (hl : s.length ≤ 2000000) : ∀ (e i st : Nat) (outs : List (List UInt8)), i + e = s.length → st ≤ i → outs.length ≤ st → (∀ x ∈ (s.drop st).take (i - st), x ≠ c) →
  Ev (fun k => spec_l2Parts.l0 k (S s) (c.toNat : Int) (SL outs) (st : Int) (i : Int)) (SL (outs ++ parts c (s.drop st))) := by
 intro e
 induction e with
 | zero =>
  intro i st outs hi hst ho hn
  rw [List.take_of_length_le (by rw [List.length_drop]; omega)] at hn
  refine Ev.step (fun k => by rw [spec_l2Parts.l0]) ?_
  simp only [size_S, SL_length, Int.toNat_natCast, extract_S]
  have e1 : SL outs ++ [S ((s.drop st).take (s.length - st))] = SL (outs ++ parts c (s.drop st)) := by
   rw [List.take_of_length_le (by rw [List.length_drop]; omega), parts_none hn, SL_one, SL_append]
  rw [e1]
  exact ev_neg (by omega) (ev_pos (by omega) (ev_pos (by omega) (ev_pos (by omega) (Ev.now _))))
 | succ e ih =>
  intro i st outs hi hst ho hn
  have hlt : i < s.length := by omega
  have hg : s.getD i 0 = s[i] := by rw [List.getD_eq_getElem?_getD, List.getElem?_eq_getElem hlt]; rfl
  have w : wrap64 ((i : Int) + 1) = ((i + 1 : Nat) : Int) := by rw [w64 (by omega) (by omega)]; omega
  refine Ev.step (fun k => by rw [spec_l2Parts.l0]) ?_
  simp only [size_S, SL_length, bt_S, Int.toNat_natCast, hg, w, extract_S]
  refine ev_pos (by omega) (ev_pos (by omega) ?_)
  by_cases hc : s[i] = c
  ·have h := ih (i + 1) (i + 1) (outs ++ [(s.drop st).take (i - st)]) (by omega) (by omega) (by simp; omega) (by rw [Nat.sub_self]; simp)
   have sh : s.drop st = (s.drop st).take (i - st) ++ c :: s.drop (i + 1) := by
    have h1 : (s.drop st).drop (i - st) = s[i] :: s.drop (i + 1) := by rw [List.drop_drop, show st + (i - st) = i by omega]; exact drop_cons hlt
    rw [← hc, ← h1, List.take_append_drop]
   have hp : parts c (s.drop st) = (s.drop st).take (i - st) :: parts c (s.drop (i + 1)) := by
    have := parts_cut (s.drop (i + 1)) hn
    rw [← sh] at this
    exact this
   rw [SL_one, SL_append, hp]
   rw [List.append_assoc] at h
   exact ev_pos (by rw [hc]) (ev_pos (by omega) (ev_pos (by omega) (ev_pos (by omega) (ev_pos (by omega) h))))
  ·refine ev_neg (fun q => hc (u8_eq.1 q)) (ih (i + 1) st outs (by omega) (by omega) ho ?_)
   intro x hx
   have e1 : (s.drop st).take (i + 1 - st) = (s.drop st).take (i - st) ++ [s[i]] := by
    rw [show i + 1 - st = i - st + 1 by omega, List.take_succ_eq_append_getElem (by rw [List.length_drop]; omega)]
    simp [List.getElem_drop, show st + (i - st) = i by omega]
   rw [e1] at hx
   rcases List.mem_append.1 hx with hx | hx
   ·exact hn x hx
   ·simp only [List.mem_singleton] at hx
    rw [hx]
    exact hc
theorem l2parts (c : UInt8) (s : List UInt8) (hl : s.length ≤ 2000000) : Ev (fun k => spec_l2Parts.f k (S s) (c.toNat : Int)) (SL (parts c s)) := by
 simp only [spec_l2Parts.f, SL_nil]
 have := l2parts_loop c s hl s.length 0 0 [] (by omega) (by omega) (by simp) (by simp)
 rwa [List.drop_zero, List.nil_append] at this
abbrev z8 : D8 := (0, 0, 0, 0, 0, 0, 0, false)
def saidD (wd : List UInt8) (named : Bool) (x1 : List UInt8) (d y : Nat) (t : Nat × Nat × Nat) (z : Int) : D8 :=
 if Valid (y : Int) (monN x1 : Int) (d : Int) (t.1 : Int) (t.2.1 : Int) (t.2.2 : Int) z ∧ (named = true → lowL (trim wd) = lowL (wdB (dayN (y : Int) (monN x1 : Int) (d : Int) % 7).toNat)) then ((y : Int), (monN x1 : Int), (d : Int), (t.1 : Int), (t.2.1 : Int), (t.2.2 : Int), z, true) else z8
def parse5 (wd : List UInt8) (named : Bool) (x0 x1 x2 x3 x4 : List UInt8) : D8 :=
 (((digR x0 1 2).bind fun d => (digR x2 4 4).bind fun y => (timeR x3).bind fun t => (zoneR x4).bind fun z => some (saidD wd named x1 d y t z))).getD z8
def parseW (wd : List UInt8) (named : Bool) (ws : List (List UInt8)) : D8 := match ws with
 | [x0, x1, x2, x3, x4] => parse5 wd named x0 x1 x2 x3 x4
 | _ => z8
theorem parseW_ne (wd : List UInt8) (named : Bool) {ws : List (List UInt8)} (h : ws.length ≠ 5) : parseW wd named ws = z8 := by
 match ws, h with
 | [], _ => rfl
 | [_], _ => rfl
 | [_, _], _ => rfl
 | [_, _, _], _ => rfl
 | [_, _, _, _], _ => rfl
 | [_, _, _, _, _], h => exact absurd rfl h
 | _ :: _ :: _ :: _ :: _ :: _ :: _, _ => rfl
def wordsS (s : List UInt8) : List (List UInt8) := (parts 32 s).filter fun x => !(x == [])
def parseC (s : List UInt8) (q : List UInt8 × List UInt8 × Bool) : D8 := parseW q.1 q.2.2 (wordsS (if q.2.2 = true then q.2.1 else s))
def parseD (s : List UInt8) : D8 := if textOK s then parseC s (Lib.cut s [44]) else z8
theorem wordsS_mem {c : UInt8} (hc : c ≠ 32) {s : List UInt8} (h : c ∈ s) : ∃ p ∈ wordsS s, c ∈ p := by
 obtain ⟨p, hp, h2⟩ := parts_mem (c := 32) h hc
 refine ⟨p, List.mem_filter.2 ⟨hp, ?_⟩, h2⟩
 cases p with
 | nil => cases h2
 | cons a r => rfl
theorem wdB_letters (n : Int) : ∀ c ∈ wdB (n % 7).toNat, (65 ≤ c.toNat ∧ c.toNat ≤ 90) ∨ (97 ≤ c.toNat ∧ c.toNat ≤ 122) := by
 rcases wkd_cases n with e | e | e | e | e | e | e <;> (rw [e]; decide)
theorem saidD_quote {wd x1 : List UInt8} {named : Bool} (h : (named = true ∧ 34 ∈ wd) ∨ 34 ∈ x1) (d y : Nat) (t : Nat × Nat × Nat) (z : Int) : saidD wd named x1 d y t z = z8 := by
 unfold saidD
 rw [if_neg]
 rintro ⟨h1, h2⟩
 rcases h with ⟨hn, h⟩ | h
 ·have h3 := quote_low (mem_trim (by decide) h)
  rw [h2 hn] at h3
  have h4 := low_letters (wdB_letters _) 34 h3
  revert h4
  decide
 ·have h3 := h1.1.ym.2.2.1
  rw [monN_quote h] at h3
  exact absurd h3 (by decide)
theorem parse5_quote {wd x0 x1 x2 x3 x4 : List UInt8} {named : Bool} (h : (named = true ∧ 34 ∈ wd) ∨ 34 ∈ x0 ∨ 34 ∈ x1 ∨ 34 ∈ x2 ∨ 34 ∈ x3 ∨ 34 ∈ x4) : parse5 wd named x0 x1 x2 x3 x4 = z8 := by
 unfold parse5
 rcases h with h | h | h | h | h | h
 ·simp only [saidD_quote (Or.inl h)]
  cases digR x0 1 2 <;> cases digR x2 4 4 <;> cases timeR x3 <;> cases zoneR x4 <;> rfl
 ·rw [digR_quote _ _ h]
  rfl
 ·simp only [saidD_quote (Or.inr h)]
  cases digR x0 1 2 <;> cases digR x2 4 4 <;> cases timeR x3 <;> cases zoneR x4 <;> rfl
 ·rw [digR_quote _ _ h]
  cases digR x0 1 2 <;> rfl
 ·rw [timeR_quote h]
  cases digR x0 1 2 <;> cases digR x2 4 4 <;> rfl
 ·rw [zoneR_quote h]
  cases digR x0 1 2 <;> cases digR x2 4 4 <;> cases timeR x3 <;> rfl
theorem parseW_quote {wd : List UInt8} {named : Bool} {ws : List (List UInt8)} (h : (named = true ∧ 34 ∈ wd) ∨ ∃ p ∈ ws, 34 ∈ p) : parseW wd named ws = z8 := by
 unfold parseW
 split
 ·rename_i x0 x1 x2 x3 x4
  refine parse5_quote ?_
  rcases h with h | ⟨p, hp, h⟩
  ·exact Or.inl h
  ·simp only [List.mem_cons, List.not_mem_nil, or_false] at hp
   rcases hp with rfl | rfl | rfl | rfl | rfl
   ·exact Or.inr (Or.inl h)
   ·exact Or.inr (Or.inr (Or.inl h))
   ·exact Or.inr (Or.inr (Or.inr (Or.inl h)))
   ·exact Or.inr (Or.inr (Or.inr (Or.inr (Or.inl h))))
   ·exact Or.inr (Or.inr (Or.inr (Or.inr (Or.inr h))))
 ·rfl
theorem parseC_quote {s : List UInt8} (h : 34 ∈ s) {q : List UInt8 × List UInt8 × Bool} (hq : q.2.2 = false ∨ (q.2.2 = true ∧ s = q.1 ++ 44 :: q.2.1)) : parseC s q = z8 := by
 unfold parseC
 rcases hq with hq | ⟨hq, e⟩
 ·rw [hq, if_neg (by decide)]
  exact parseW_quote (Or.inr (wordsS_mem (by decide) h))
 ·rw [hq, if_pos rfl]
  rw [e] at h
  rcases List.mem_append.1 h with h | h
  ·exact parseW_quote (Or.inl ⟨rfl, h⟩)
  ·rcases List.mem_cons.1 h with h | h
   ·exact absurd h (by decide)
   ·exact parseW_quote (Or.inr (wordsS_mem (by decide) h))
theorem wordsS_cons {w r : List UInt8} (h : ∀ c ∈ w, c ≠ 32) (hw : w ≠ []) : wordsS (w ++ 32 :: r) = w :: wordsS r := by
 unfold wordsS
 rw [parts_cut r h, List.filter_cons_of_pos]
 cases w with
 | nil => exact absurd rfl hw
 | cons a t => rfl
theorem wordsS_last {w : List UInt8} (h : ∀ c ∈ w, c ≠ 32) (hw : w ≠ []) : wordsS w = [w] := by
 unfold wordsS
 rw [parts_none h, List.filter_cons_of_pos]
 ·rfl
 ·cases w with
  | nil => exact absurd rfl hw
  | cons a t => rfl
theorem wordsS_space (r : List UInt8) : wordsS (32 :: r) = wordsS r := by
 unfold wordsS
 rw [parts, if_pos rfl]
 rfl
theorem ptrim_is (v : List UInt8) (hl : v.length ≤ 1000000000) : strings_Trim.f (S v) (⟨#[32]⟩ : ByteArray) = some (S (Lib.trimB v 32)) := by
 unfold strings_Trim.f
 rw [if_pos ⟨by rw [size_S]; omega, rfl, by decide⟩]
 rfl
theorem idx_none {c : UInt8} {s : List UInt8} (h : ∀ x ∈ s, x ≠ c) : Lib.index s [c] = -1 := by
 induction s with
 | nil => rfl
 | cons b r ih =>
  have hp : ([c].isPrefixOf (b :: r)) = false := by
   have : (c == b) = false := beq_eq_false_iff_ne.2 (fun q => h b (by simp) q.symm)
   show (c == b && _) = false
   rw [this, Bool.false_and]
  rw [Lib.index, if_neg (by rw [hp]; decide), ih (fun x hx => h x (by simp [hx]))]
  rfl
theorem idx_at {c : UInt8} {a r : List UInt8} (h : ∀ x ∈ a, x ≠ c) : Lib.index (a ++ c :: r) [c] = (a.length : Int) := by
 induction a with
 | nil =>
  show Lib.index (c :: r) [c] = 0
  rw [Lib.index, if_pos (by simp)]
 | cons b t ih =>
  have hp : ([c].isPrefixOf (b :: (t ++ c :: r))) = false := by
   have : (c == b) = false := beq_eq_false_iff_ne.2 (fun q => h b (by simp) q.symm)
   show (c == b && _) = false
   rw [this, Bool.false_and]
  rw [List.cons_append, Lib.index, if_neg (by rw [hp]; decide), ih (fun x hx => h x (by simp [hx])), if_neg (by rw [beq_iff_eq]; omega), List.length_cons]
  omega
theorem cut_none {c : UInt8} {s : List UInt8} (h : ∀ x ∈ s, x ≠ c) : Lib.cut s [c] = (s, [], false) := by
 unfold Lib.cut
 rw [idx_none h, if_neg (by decide)]
theorem cut_at {c : UInt8} {a r : List UInt8} (h : ∀ x ∈ a, x ≠ c) : Lib.cut (a ++ c :: r) [c] = (a, r, true) := by
 unfold Lib.cut
 rw [idx_at h, if_pos (by omega), Int.toNat_natCast]
 have e1 : (a ++ c :: r).take a.length = a := List.take_left' rfl
 have e2 : (a ++ c :: r).drop (a.length + [c].length) = r := by
  rw [show a ++ c :: r = (a ++ [c]) ++ r by simp]
  exact List.drop_left' (by simp)
 rw [e1, e2]
theorem cut_form (s : List UInt8) (c : UInt8) : (∀ x ∈ s, x ≠ c) ∨ ∃ a r, s = a ++ c :: r ∧ ∀ x ∈ a, x ≠ c := by
 induction s with
 | nil => exact Or.inl (fun x hx => by cases hx)
 | cons b t ih =>
  by_cases hb : b = c
  ·exact Or.inr ⟨[], t, by rw [hb]; rfl, fun x hx => by cases hx⟩
  ·rcases ih with ih | ⟨a, r, rfl, ha⟩
   ·refine Or.inl (fun x hx => ?_)
    rcases List.mem_cons.1 hx with rfl | hx
    ·exact hb
    ·exact ih x hx
   ·refine Or.inr ⟨b :: a, r, rfl, fun x hx => ?_⟩
    rcases List.mem_cons.1 hx with rfl | hx
    ·exact hb
    ·exact ha x hx
theorem cut_len (s : List UInt8) (c : UInt8) : (Lib.cut s [c]).1.length ≤ s.length ∧ (Lib.cut s [c]).2.1.length ≤ s.length := by
 rcases cut_form s c with h | ⟨a, r, rfl, h⟩
 ·rw [cut_none h]
  exact ⟨Nat.le_refl _, Nat.zero_le _⟩
 ·rw [cut_at h]
  simp
  omega
theorem digit_is (c : UInt8) : impl_isDigit.f (c.toNat : Int) = some (decide (isDg c)) := by
 unfold impl_isDigit.f
 by_cases h1 : (c.toNat : Int) ≥ 48
 ·rw [if_pos h1]
  refine congrArg some (decide_eq_decide.2 ?_)
  unfold isDg
  omega
 ·rw [if_neg h1, decide_eq_false (show ¬ isDg c by unfold isDg; omega)]
theorem alld_ev (s : List UInt8) (hl : s.length ≤ 1000000000) : Ev (fun k => impl_allBytes.f k (S s)) (decide (∀ c ∈ s, isDg c)) := by
 simp only [impl_allBytes.f, size_S]
 have loop : ∀ (e i : Nat), i + e = s.length → (∀ j (h : j < s.length), j < i → isDg s[j]) → Ev (fun k => impl_allBytes.l0 k (S s) (s.length : Int) (i : Int)) (decide (∀ c ∈ s, isDg c)) := by
  intro e
  induction e with
  | zero =>
   intro i hi hp
   have e1 : decide (∀ c ∈ s, isDg c) = true := decide_eq_true (fun c hc => by
    obtain ⟨j, hj, rfl⟩ := List.mem_iff_getElem.1 hc
    exact hp j hj (by omega))
   refine Ev.step (fun k => by rw [impl_allBytes.l0]) ?_
   rw [e1]
   exact ev_neg (by omega) (Ev.now _)
  | succ e ih =>
   intro i hi hp
   have hlt : i < s.length := by omega
   have hg : s.getD i 0 = s[i] := by rw [List.getD_eq_getElem?_getD, List.getElem?_eq_getElem hlt]; rfl
   have w : wrap64 ((i : Int) + 1) = ((i + 1 : Nat) : Int) := by rw [w64 (by omega) (by omega)]; omega
   refine Ev.step (fun k => by rw [impl_allBytes.l0]) ?_
   simp only [size_S, bt_S, Int.toNat_natCast, hg, w, digit_is, Option.bind_some]
   clear w
   refine ev_pos (by omega) (ev_pos (by omega) (ev_pos (by omega) ?_))
   by_cases hc : isDg s[i]
   ·refine ev_pos (decide_eq_true hc) (ih (i + 1) (by omega) ?_)
    intro j hj hji
    by_cases q : j = i
    ·subst q
     exact hc
    ·exact hp j hj (by omega)
   ·rw [decide_eq_false (fun q : ∀ c ∈ s, isDg c => hc (q _ (List.getElem_mem hlt)))]
    exact ev_neg (by simpa using hc) (Ev.now _)
 exact loop s.length 0 (by omega) (fun j _ h => by omega)
def optI (o : Option Nat) : Int × Bool := match o with
 | some n => ((n : Int), true)
 | none => (0, false)
theorem ten_le {i : Nat} (h : i ≤ 5) : 10 ^ i ≤ 100000 := Nat.pow_le_pow_right (n := 10) (by omega) h
theorem digits_ev (s : List UInt8) (a b : Nat) (hb : b ≤ 4) (hl : s.length ≤ 1000000000) : Ev (fun k => impl_digits.f k (S s) (a : Int) (b : Int)) (optI (digR s a b)) := by
 simp only [impl_digits.f, size_S, between_is, Option.bind_some]
 by_cases h1 : (a : Int) ≤ (s.length : Int) ∧ (s.length : Int) ≤ (b : Int)
 ·refine ev_pos (decide_eq_true h1) (Ev.bind (alld_ev s hl) ?_)
  by_cases h2 : ∀ c ∈ s, isDg c
  ·have hd : digR s a b = some (numF 0 s) := by unfold digR; rw [if_pos ⟨by omega, by omega, h2⟩]
   rw [hd, decide_eq_true h2]
   refine Ev.step (fun k => by rw [impl_digits.j0]) ?_
   refine ev_neg (by decide) ?_
   rw [size_S]
   have loop : ∀ (e i n : Nat), i + e = s.length → n < 10 ^ i → Ev (fun k => impl_digits.l0 k (S s) (n : Int) (s.length : Int) (i : Int)) ((numF n (s.drop i) : Nat), true) := by
    intro e
    induction e with
    | zero =>
     intro i n hi hn
     refine Ev.step (fun k => by rw [impl_digits.l0]) ?_
     rw [List.drop_of_length_le (by omega)]
     exact ev_neg (by omega) (Ev.now _)
    | succ e ih =>
     intro i n hi hn
     have hlt : i < s.length := by omega
     have hg : s.getD i 0 = s[i] := by rw [List.getD_eq_getElem?_getD, List.getElem?_eq_getElem hlt]; rfl
     have hc := h2 s[i] (List.getElem_mem hlt)
     unfold isDg at hc
     have hten := ten_le (i := i) (by omega)
     have hp : 10 ^ (i + 1) = 10 ^ i * 10 := Nat.pow_succ 10 i
     have h3 := ih (i + 1) (10 * n + (s[i].toNat - 48)) (by omega) (by omega)
     have w : wrap64 ((i : Int) + 1) = ((i + 1 : Nat) : Int) := by rw [w64 (by omega) (by omega)]; omega
     have w1 : wrap64 (10 * (n : Int)) = ((10 * n : Nat) : Int) := by rw [w64 (by omega) (by omega)]; omega
     have w2 : wrap64 (((10 * n : Nat) : Int) + (((s[i].toNat : Int) - 48) % 256)) = ((10 * n + (s[i].toNat - 48) : Nat) : Int) := by rw [w64 (by omega) (by omega)]; omega
     refine Ev.step (fun k => by rw [impl_digits.l0]) ?_
     simp only [size_S, bt_S, Int.toNat_natCast, hg, w, w1, w2]
     rw [drop_cons hlt]
     exact ev_pos (by omega) (ev_pos (by omega) (ev_pos (by omega) h3))
   have h4 := loop s.length 0 0 (by omega) (by decide)
   rwa [List.drop_zero] at h4
  ·have hd : digR s a b = none := by unfold digR; rw [if_neg (fun q => h2 q.2.2)]
   rw [hd, decide_eq_false h2]
   refine Ev.step (fun k => by rw [impl_digits.j0]) ?_
   exact ev_pos rfl (Ev.now _)
 ·have hd : digR s a b = none := by unfold digR; rw [if_neg (fun q => h1 ⟨by omega, by omega⟩)]
  rw [hd]
  refine ev_neg (by simpa using h1) ?_
  refine Ev.step (fun k => by rw [impl_digits.j0]) ?_
  exact ev_pos rfl (Ev.now _)
theorem filt_SL (l : List (List UInt8)) : (SL l).filter (fun x => !(x.toList == ([] : List UInt8))) = SL (l.filter fun x => !(x == [])) := by
 induction l with
 | nil => rfl
 | cons a r ih =>
  show (S a :: SL r).filter _ = _
  rw [List.filter_cons, List.filter_cons, toList_S, ih]
  split <;> rfl
theorem psplit (c : UInt8) (s : List UInt8) (hs : s.length < 4294967281) : strings_Split.f (S s) (⟨#[c]⟩ : ByteArray) = some (SL (parts c s)) := by
 unfold strings_Split.f
 have h : (⟨#[c]⟩ : ByteArray).size = 1 := rfl
 rw [if_pos ⟨by rw [size_S]; exact hs, h⟩, splitB_parts]
theorem ptime_ev (s : List UInt8) (hl : s.length ≤ 1000000) : ∃ h m c : Int, Ev (fun k => impl_parseTime.f k (S s)) (h, m, c, (timeR s).isSome) ∧ ∀ t, timeR s = some t → h = (t.1 : Int) ∧ m = (t.2.1 : Int) ∧ c = (t.2.2 : Int) := by
 have hd : ∀ p ∈ parts 58 s, Ev (fun k => impl_digits.f k (S p) 2 2) (optI (digR p 2 2)) := fun p hp => digits_ev p 2 2 (by omega) (by have := (parts_each 58 s p hp).1; omega)
 have no : ∀ n : Nat, n = (parts 58 s).length → ¬ (2 ≤ n ∧ n ≤ 3) → timeR s = none → ∃ h m c : Int, Ev (fun k => impl_parseTime.f k (S s)) (h, m, c, (timeR s).isSome) ∧ ∀ t, timeR s = some t → h = (t.1 : Int) ∧ m = (t.2.1 : Int) ∧ c = (t.2.2 : Int) := by
  intro n hn h1 h2
  rw [h2]
  refine ⟨0, 0, 0, ?_, fun t h => by cases h⟩
  simp only [impl_parseTime.f, psplit 58 s (by omega), Option.bind_some, SL_length, between_is]
  have e : decide ((2 : Int) ≤ ((parts 58 s).length : Int) ∧ ((parts 58 s).length : Int) ≤ 3) = false := decide_eq_false (by omega)
  rw [e]
  exact ev_neg (by rintro ⟨q, _⟩; cases q) (ev_neg (by decide) (Ev.now _))
 match hp : parts 58 s with
 | [] => exact absurd hp (parts_ne 58 s)
 | [a] => exact no 1 (by rw [hp]; rfl) (by omega) (by unfold timeR; rw [hp]; rfl)
 | a :: b :: c :: d :: r => exact no (r.length + 4) (by rw [hp]; rfl) (by omega) (by unfold timeR; rw [hp]; rfl)
 | [a, b] =>
  rw [hp] at hd
  have ha := hd a (by simp)
  have hb := hd b (by simp)
  have hr : timeR s = (digR a 2 2).bind fun h => (digR b 2 2).bind fun m => some (h, m, 0) := by unfold timeR; rw [hp]; rfl
  rw [hr]
  simp only [impl_parseTime.f, psplit 58 s (by omega), Option.bind_some, SL_length, between_is, hp]
  have go : ∀ {h m c : Int} {z : Bool}, Ev (fun k => impl_parseTime.go k (SL [a, b]) 0 0 0 0) (h, m, c, z) → Ev (fun k => if (decide ((2 : Int) ≤ (([a, b].length : Nat) : Int) ∧ (([a, b].length : Nat) : Int) ≤ 3) = true ∧ 2 ≤ [a, b].length ∧ [a, b].length ≤ 3) then impl_parseTime.go k (SL [a, b]) 0 0 0 0 else if decide ((2 : Int) ≤ (([a, b].length : Nat) : Int) ∧ (([a, b].length : Nat) : Int) ≤ 3) = true then none else some (0, 0, 0, false)) (h, m, c, z) := fun q => ev_pos ⟨decide_eq_true ⟨by simp, by simp⟩, by simp, by simp⟩ q
  cases ea : digR a 2 2 with
  | none =>
   rw [ea] at ha
   refine ⟨0, 0, 0, go ?_, fun t h => by cases h⟩
   exact Ev.bind ha (ev_neg (by decide) (Ev.now _))
  | some n =>
   rw [ea] at ha
   cases eb : digR b 2 2 with
   | none =>
    rw [eb] at hb
    refine ⟨n, 0, 0, go ?_, fun t h => by cases h⟩
    exact Ev.bind ha (ev_pos rfl (Ev.bind hb (ev_neg (by decide) (Ev.now _))))
   | some m =>
    rw [eb] at hb
    refine ⟨n, m, 0, go ?_, fun t h => by obtain rfl := Option.some.inj h; exact ⟨rfl, rfl, rfl⟩⟩
    exact Ev.bind ha (ev_pos rfl (Ev.bind hb (ev_pos rfl (Ev.now _))))
 | [a, b, c] =>
  rw [hp] at hd
  have ha := hd a (by simp)
  have hb := hd b (by simp)
  have hc := hd c (by simp)
  have hr : timeR s = (digR a 2 2).bind fun h => (digR b 2 2).bind fun m => (digR c 2 2).bind fun x => some (h, m, x) := by unfold timeR; rw [hp]; rfl
  rw [hr]
  simp only [impl_parseTime.f, psplit 58 s (by omega), Option.bind_some, SL_length, between_is, hp]
  have go : ∀ {h m x : Int} {z : Bool}, Ev (fun k => impl_parseTime.go k (SL [a, b, c]) 0 0 0 0) (h, m, x, z) → Ev (fun k => if (decide ((2 : Int) ≤ (([a, b, c].length : Nat) : Int) ∧ (([a, b, c].length : Nat) : Int) ≤ 3) = true ∧ 2 ≤ [a, b, c].length ∧ [a, b, c].length ≤ 3) then impl_parseTime.go k (SL [a, b, c]) 0 0 0 0 else if decide ((2 : Int) ≤ (([a, b, c].length : Nat) : Int) ∧ (([a, b, c].length : Nat) : Int) ≤ 3) = true then none else some (0, 0, 0, false)) (h, m, x, z) := fun q => ev_pos ⟨decide_eq_true ⟨by simp, by simp⟩, by simp, by simp⟩ q
  cases ea : digR a 2 2 with
  | none =>
   rw [ea] at ha
   refine ⟨0, 0, 0, go ?_, fun t h => by cases h⟩
   exact Ev.bind ha (ev_neg (by decide) (Ev.now _))
  | some n =>
   rw [ea] at ha
   cases eb : digR b 2 2 with
   | none =>
    rw [eb] at hb
    refine ⟨n, 0, 0, go ?_, fun t h => by cases h⟩
    exact Ev.bind ha (ev_pos rfl (Ev.bind hb (ev_neg (by decide) (Ev.now _))))
   | some m =>
    rw [eb] at hb
    cases ec : digR c 2 2 with
    | none =>
     rw [ec] at hc
     refine ⟨n, m, 0, go ?_, fun t h => by cases h⟩
     exact Ev.bind ha (ev_pos rfl (Ev.bind hb (ev_pos rfl (Ev.bind hc (ev_neg (by decide) (Ev.now _))))))
    | some x =>
     rw [ec] at hc
     refine ⟨n, m, x, go ?_, fun t h => by obtain rfl := Option.some.inj h; exact ⟨rfl, rfl, rfl⟩⟩
     exact Ev.bind ha (ev_pos rfl (Ev.bind hb (ev_pos rfl (Ev.bind hc (ev_pos rfl (Ev.now _))))))
theorem digR_hi {l : List UInt8} {a n : Nat} (h : digR l a 2 = some n) : n < 100 := by
 unfold digR at h
 split at h
 ·rename_i q
  obtain rfl := Option.some.inj h
  have h1 := numF_bd 0 l q.2.2
  have h2 : 10 ^ l.length ≤ 10 ^ 2 := Nat.pow_le_pow_right (by omega) q.2.1
  omega
 ·cases h
theorem zone_first (s : List UInt8) : bt (S s) 0 = ((s.getD 0 0).toNat : Int) := by rw [bt_S]; rfl
theorem zoneR_gmt {s : List UInt8} (h : s = [71, 77, 84] ∨ s = [85, 84]) : zoneR s = some 0 := by unfold zoneR; rw [if_pos h]
theorem zoneR_bad {s : List UInt8} (h : ¬ (s = [71, 77, 84] ∨ s = [85, 84])) (h2 : ¬ (s.length = 5 ∧ (s.getD 0 0 = 43 ∨ s.getD 0 0 = 45))) : zoneR s = none := by unfold zoneR; rw [if_neg h, if_neg h2]
theorem zoneR_len {s : List UInt8} (h : ¬ (s = [71, 77, 84] ∨ s = [85, 84])) (h2 : s.length = 5 ∧ (s.getD 0 0 = 43 ∨ s.getD 0 0 = 45)) : zoneR s = (digR ((s.drop 1).take 2) 2 2).bind fun h => (digR (s.drop 3) 2 2).bind fun m => if m ≤ 59 then some (zoneV (s.getD 0 0 == 45) h m) else none := by unfold zoneR; rw [if_neg h, if_pos h2]
theorem zwrap {h m : Nat} (h1 : h < 100) (h2 : m < 100) : wrap64 (wrap64 (60 * (h : Int)) + (m : Int)) = ((60 * h + m : Nat) : Int) ∧ wrap64 (-((60 * h + m : Nat) : Int)) = -((60 * h + m : Nat) : Int) := by
 have w1 : wrap64 (60 * (h : Int)) = 60 * (h : Int) := w64 (by omega) (by omega)
 rw [w1]
 refine ⟨?_, w64 (by omega) (by omega)⟩
 rw [w64 (by omega) (by omega)]
 omega
theorem pzone_ev (s : List UInt8) : ∃ v : Int, Ev (fun k => impl_parseZone.f k (S s)) (v, (zoneR s).isSome) ∧ ∀ z, zoneR s = some z → v = z := by
 simp only [impl_parseZone.f, toList_S]
 by_cases g1 : s = [71, 77, 84]
 ·rw [zoneR_gmt (Or.inl g1)]
  refine ⟨0, ev_pos g1 ?_, fun z h => Option.some.inj h⟩
  refine Ev.step (fun k => by rw [impl_parseZone.j0]) ?_
  exact ev_pos rfl (Ev.now _)
 by_cases g2 : s = [85, 84]
 ·rw [zoneR_gmt (Or.inr g2)]
  refine ⟨0, ev_neg g1 ?_, fun z h => Option.some.inj h⟩
  refine Ev.step (fun k => by rw [impl_parseZone.j0]) ?_
  exact ev_pos (beq_iff_eq.2 g2) (Ev.now _)
 have hg : ¬ (s = [71, 77, 84] ∨ s = [85, 84]) := fun q => q.elim g1 g2
 have start : ∀ {v : Int} {b : Bool}, Ev (fun k => if (s.length : Int) = 5 then (if 0 < (s.length : Int) then (if ((s.getD 0 0).toNat : Int) = 43 then impl_parseZone.j1 k (S s) false else impl_parseZone.j1 k (S s) (((s.getD 0 0).toNat : Int) != 45)) else none) else impl_parseZone.j1 k (S s) true) (v, b) → Ev (fun k => if s = [71, 77, 84] then impl_parseZone.j0 k (S s) true else impl_parseZone.j0 k (S s) (s == [85, 84])) (v, b) := by
  intro v b h
  refine ev_neg g1 (Ev.step (fun k => by rw [impl_parseZone.j0]) ?_)
  rw [size_S, zone_first]
  exact ev_neg (by simpa using g2) h
 have bad : Ev (fun k => impl_parseZone.j1 k (S s) true) (0, false) := by
  refine Ev.step (fun k => by rw [impl_parseZone.j1]) ?_
  exact ev_pos rfl (Ev.now _)
 by_cases h5 : s.length = 5
 ·by_cases h0 : s.getD 0 0 = 43 ∨ s.getD 0 0 = 45
  ·rw [zoneR_len hg ⟨h5, h0⟩]
   have hx1 : (S s).extract 1 3 = S ((s.drop 1).take 2) := by rw [extract_S]
   have hx2 : (S s).extract 3 5 = S (s.drop 3) := by rw [extract_S, List.take_of_length_le (by rw [List.length_drop]; omega)]
   have ha := digits_ev ((s.drop 1).take 2) 2 2 (by omega) (by simp; omega)
   have hb := digits_ev (s.drop 3) 2 2 (by omega) (by simp; omega)
   have enter : ∀ {v : Int} {b : Bool}, Ev (fun k => (impl_digits.f k (S ((s.drop 1).take 2)) 2 2).bind fun p => (impl_digits.f k (S (s.drop 3)) 2 2).bind fun q => if ((s.getD 0 0).toNat : Int) = 45 then (if p.2 = true then (if q.2 = true then some (wrap64 (-(wrap64 (wrap64 (60 * p.1) + q.1))), decide (q.1 ≤ 59)) else some (wrap64 (-(wrap64 (wrap64 (60 * p.1) + q.1))), false)) else some (wrap64 (-(wrap64 (wrap64 (60 * p.1) + q.1))), false)) else (if p.2 = true then (if q.2 = true then some (wrap64 (wrap64 (60 * p.1) + q.1), decide (q.1 ≤ 59)) else some (wrap64 (wrap64 (60 * p.1) + q.1), false)) else some (wrap64 (wrap64 (60 * p.1) + q.1), false))) (v, b) → Ev (fun k => if s = [71, 77, 84] then impl_parseZone.j0 k (S s) true else impl_parseZone.j0 k (S s) (s == [85, 84])) (v, b) := by
    intro v b h
    refine start (ev_pos (by omega) (ev_pos (by omega) ?_))
    have j1 : Ev (fun k => impl_parseZone.j1 k (S s) false) (v, b) := by
     refine Ev.step (fun k => by rw [impl_parseZone.j1]) ?_
     simp only [size_S, h5, zone_first, hx1, hx2]
     refine ev_neg (by decide) (ev_pos (by decide) (ev_pos (by decide) ?_))
     refine Ev.congr (fun k => ?_) h
     rfl
    rcases h0 with h0 | h0
    ·exact ev_pos (by rw [h0]; rfl) j1
    ·refine ev_neg (by rw [h0]; decide) ?_
     rw [h0]
     exact j1
   cases ea : digR ((s.drop 1).take 2) 2 2 with
   | none =>
    rw [ea] at ha
    have nob : ∀ q : Int × Bool, Ev (fun k => impl_digits.f k (S (s.drop 3)) 2 2) q → ∃ v : Int, Ev (fun k => if s = [71, 77, 84] then impl_parseZone.j0 k (S s) true else impl_parseZone.j0 k (S s) (s == [85, 84])) (v, false) := by
     intro q hq
     by_cases hz : ((s.getD 0 0).toNat : Int) = 45
     ·exact ⟨_, enter (Ev.bind ha (Ev.bind hq (ev_pos hz (ev_neg (by decide) (Ev.now _)))))⟩
     ·exact ⟨_, enter (Ev.bind ha (Ev.bind hq (ev_neg hz (ev_neg (by decide) (Ev.now _)))))⟩
    obtain ⟨v, hv⟩ := nob _ hb
    exact ⟨v, hv, fun z h => by cases h⟩
   | some n =>
    rw [ea] at ha
    have n1 := digR_hi ea
    cases eb : digR (s.drop 3) 2 2 with
    | none =>
     rw [eb] at hb
     by_cases hz : ((s.getD 0 0).toNat : Int) = 45
     ·exact ⟨_, enter (Ev.bind ha (Ev.bind hb (ev_pos hz (ev_pos rfl (ev_neg (by decide) (Ev.now _)))))), fun z h => by cases h⟩
     ·exact ⟨_, enter (Ev.bind ha (Ev.bind hb (ev_neg hz (ev_pos rfl (ev_neg (by decide) (Ev.now _)))))), fun z h => by cases h⟩
    | some m =>
     rw [eb] at hb
     have m1 := digR_hi eb
     obtain ⟨z1, z2⟩ := zwrap n1 m1
     rw [Option.bind_some, Option.bind_some]
     have hres : ∀ x : Int, x = zoneV (s.getD 0 0 == 45) n m → Ev (fun k => if s = [71, 77, 84] then impl_parseZone.j0 k (S s) true else impl_parseZone.j0 k (S s) (s == [85, 84])) (x, decide ((m : Int) ≤ 59)) → ∃ v : Int, Ev (fun k => if s = [71, 77, 84] then impl_parseZone.j0 k (S s) true else impl_parseZone.j0 k (S s) (s == [85, 84])) (v, (if m ≤ 59 then some (zoneV (s.getD 0 0 == 45) n m) else none).isSome) ∧ ∀ z, (if m ≤ 59 then some (zoneV (s.getD 0 0 == 45) n m) else none) = some z → v = z := by
      intro x hx h
      by_cases h59 : m ≤ 59
      ·rw [decide_eq_true (by omega)] at h
       rw [if_pos h59]
       exact ⟨x, h, fun z q => hx.trans (Option.some.inj q)⟩
      ·rw [decide_eq_false (by omega)] at h
       rw [if_neg h59]
       exact ⟨x, h, fun z q => by cases q⟩
     by_cases hz : ((s.getD 0 0).toNat : Int) = 45
     ·have hz2 : s.getD 0 0 = 45 := (u8_is (n := 45) (by omega)).1 hz
      refine hres (-((60 * n + m : Nat) : Int)) ?_ (enter (Ev.bind ha (Ev.bind hb (ev_pos hz (ev_pos rfl (ev_pos rfl (ev_is ?_)))))))
      ·rw [hz2]
       rfl
      ·show some (wrap64 (-(wrap64 (wrap64 (60 * (n : Int)) + (m : Int)))), decide ((m : Int) ≤ 59)) = _
       rw [z1, z2]
     ·have hz2 : s.getD 0 0 = 43 := h0.resolve_right (fun q => hz (by rw [q]; rfl))
      refine hres ((60 * n + m : Nat) : Int) ?_ (enter (Ev.bind ha (Ev.bind hb (ev_neg hz (ev_pos rfl (ev_pos rfl (ev_is ?_)))))))
      ·rw [hz2]
       rfl
      ·show some (wrap64 (wrap64 (60 * (n : Int)) + (m : Int)), decide ((m : Int) ≤ 59)) = _
       rw [z1]
  ·rw [zoneR_bad hg (fun q => h0 q.2)]
   refine ⟨0, start (ev_pos (by omega) (ev_pos (by omega) (ev_neg (fun q => h0 (Or.inl ((u8_is (n := 43) (by omega)).1 q))) ?_))), fun z h => by cases h⟩
   have e : ((((s.getD 0 0).toNat : Int)) != 45) = true := by
    rw [bne_iff_ne]
    exact fun q => h0 (Or.inr ((u8_is (n := 45) (by omega)).1 q))
   rw [e]
   exact bad
 ·rw [zoneR_bad hg (fun q => h5 q.1)]
  exact ⟨0, start (ev_neg (by omega) bad), fun z h => by cases h⟩
theorem isame_is (a b : List UInt8) (ha : a.length ≤ 1000000000) (hb : b.length ≤ 1000000000) : impl_SameText.f (S a) (S b) = some (lowL a == lowL b) := by
 have e : ∀ x : List UInt8, x.length ≤ 1000000000 → impl_LowerText.f (S x) = some (S (lowL x)) := by
  intro x hx
  unfold impl_LowerText.f
  rw [if_pos (by rw [size_S]; omega)]
  rfl
 unfold impl_SameText.f
 rw [e a ha, e b hb, Option.bind_some, Option.bind_some, toList_S, toList_S]
theorem monL_drop {j : Nat} (h : j < 12) : monL.drop j = S (monB j) :: monL.drop (j + 1) := by
 rcases mon_cases h with rfl | rfl | rfl | rfl | rfl | rfl | rfl | rfl | rfl | rfl | rfl | rfl <;> rfl
theorem pmon_none {x : List UInt8} (hx : x.length ≤ 1000000000) : ∀ (e j : Nat), j + e = 12 → (∀ i, j ≤ i → i < 12 → lowL (monB i) ≠ lowL x) → impl_ParseDate.month (S x) (monL.drop j) j = some (-1) := by
 intro e
 induction e with
 | zero =>
  intro j hj _
  obtain rfl : j = 12 := by omega
  rfl
 | succ e ih =>
  intro j hj hn
  have h3 : (monB j).length = 3 := monB_len (by omega)
  rw [monL_drop (by omega)]
  show (impl_SameText.f (S (monB j)) (S x)).bind _ = _
  rw [isame_is _ _ (by omega) hx, Option.bind_some, if_neg (by simpa using hn j (Nat.le_refl _) (by omega))]
  exact ih (j + 1) (by omega) (fun i h1 h2 => hn i (by omega) h2)
theorem pmon_some {x : List UInt8} (hx : x.length ≤ 1000000000) {i : Nat} (hi : i < 12) (hm : lowL (monB i) = lowL x) : ∀ (e j : Nat), j + e = i → impl_ParseDate.month (S x) (monL.drop j) j = some (i : Int) := by
 intro e
 induction e with
 | zero =>
  intro j hj
  obtain rfl : j = i := by omega
  have h3 : (monB j).length = 3 := monB_len (by omega)
  rw [monL_drop hi]
  show (impl_SameText.f (S (monB j)) (S x)).bind _ = _
  rw [isame_is _ _ (by omega) hx, Option.bind_some, if_pos (beq_iff_eq.2 hm)]
 | succ e ih =>
  intro j hj
  have h3 : (monB j).length = 3 := monB_len (by omega)
  rw [monL_drop (by omega)]
  show (impl_SameText.f (S (monB j)) (S x)).bind _ = _
  rw [isame_is _ _ (by omega) hx, Option.bind_some, if_neg (by
   rw [beq_iff_eq, ← hm]
   intro q
   have := mon_apart (by omega) hi q
   omega)]
  exact ih (j + 1) (by omega)
theorem pmon_is (x : List UInt8) (hx : x.length ≤ 1000000000) : ∃ v : Int, impl_ParseDate.month (S x) monL 0 = some v ∧ wrap64 (v + 1) = (monN x : Int) := by
 by_cases h : 0 < monN x
 ·obtain ⟨i, hi, he⟩ := monM_eq h
  refine ⟨(i : Int), pmon_some hx hi he.symm i 0 (by omega), ?_⟩
  have e : monN x = i + 1 := by
   unfold monN
   rw [he]
   exact monM_at (Nat.le_refl _) hi
  rw [e, w64 (by omega) (by omega)]
  omega
 ·have e : monN x = 0 := by omega
  refine ⟨-1, pmon_none hx 12 0 (by omega) (fun i _ hi q => ?_), by rw [e, w64 (by omega) (by omega)]; rfl⟩
  have : monN x = i + 1 := by
   unfold monN
   rw [← q]
   exact monM_at (Nat.le_refl _) hi
  omega
theorem wdB_len (n : Int) : (wdB (n % 7).toNat).length = 3 := by
 rcases wkd_cases n with e | e | e | e | e | e | e <;> (rw [e]; rfl)
theorem trimB_len (s : List UInt8) : (Lib.trimB s 32).length ≤ s.length := by rw [← trim_trimB]; exact trim_len s
theorem ifin_ev (wd : List UInt8) (hw : wd.length ≤ 1000000) (named : Bool) (x1 : List UInt8) (d y : Nat) (t : Nat × Nat × Nat) (z : Int) :
  Ev (fun k => impl_ParseDate.fin k (S wd) named true true true true (y : Int) (monN x1 : Int) (d : Int) (t.1 : Int) (t.2.1 : Int) (t.2.2 : Int) z) (saidD wd named x1 d y t z) := by
 simp only [impl_ParseDate.fin]
 refine ev_pos rfl (Ev.bind (valid_ev _ _ _ _ _ _ _) ?_)
 by_cases H : Valid (y : Int) (monN x1 : Int) (d : Int) (t.1 : Int) (t.2.1 : Int) (t.2.2 : Int) z
 ·refine ev_pos (decide_eq_true H) ?_
  cases named with
  | false =>
   refine ev_eq (if_pos ⟨H, fun h => by cases h⟩) ?_
   exact ev_neg (by decide) (Ev.now _)
  | true =>
   refine ev_pos rfl ?_
   rw [ptrim_is wd (by omega)]
   simp only [Option.bind_some]
   refine Ev.bind (impl_wk H) ?_
   have l1 := wdB_len (dayN (y : Int) (monN x1 : Int) (d : Int))
   have l2 := trimB_len wd
   unfold wkd
   rw [isame_is _ _ (by omega) (by omega), ← trim_trimB]
   simp only [Option.bind_some]
   by_cases h : lowL (trim wd) = lowL (wdB (dayN (y : Int) (monN x1 : Int) (d : Int) % 7).toNat)
   ·refine ev_eq (if_pos ⟨H, fun _ => h⟩) ?_
    exact ev_pos (beq_iff_eq.2 h) (Ev.now _)
   ·refine ev_eq (if_neg (fun q => h (q.2 rfl))) ?_
    exact ev_neg (by simpa using h) (Ev.now _)
 ·refine ev_eq (if_neg (fun q => H q.1)) ?_
  exact ev_neg (by simpa using H) (Ev.now _)
theorem iwords_ev (wd : List UInt8) (hw : wd.length ≤ 1000000) (named : Bool) (ws : List (List UInt8)) (hs : ∀ p ∈ ws, p.length ≤ 1000000) : Ev (fun k => impl_ParseDate.words k (S wd) named (SL ws)) (parseW wd named ws) := by
 unfold parseW
 split
 ·rename_i x0 x1 x2 x3 x4
  have d0 := digits_ev x0 1 2 (by omega) (by have := hs x0 (by simp); omega)
  have d2 := digits_ev x2 4 4 (by omega) (by have := hs x2 (by simp); omega)
  obtain ⟨v1, m1, e1⟩ := pmon_is x1 (by have := hs x1 (by simp); omega)
  obtain ⟨h, m, c, t3, e3⟩ := ptime_ev x3 (hs x3 (by simp))
  obtain ⟨v4, z4, e4⟩ := pzone_ev x4
  have main : Ev (fun k => impl_ParseDate.fin k (S wd) named (optI (digR x0 1 2)).2 (optI (digR x2 4 4)).2 (timeR x3).isSome (zoneR x4).isSome (optI (digR x2 4 4)).1 (wrap64 (v1 + 1)) (optI (digR x0 1 2)).1 h m c v4) (parse5 wd named x0 x1 x2 x3 x4) := by
   unfold parse5
   rw [e1]
   have no : ∀ {a b e f : Bool} {y mo d h mi s z : Int}, (a && b && e && f) = false → Ev (fun k => impl_ParseDate.fin k (S wd) named a b e f y mo d h mi s z) z8 := fun hn => ⟨0, fun k _ => by simp only [impl_ParseDate.fin]; rw [if_neg (by rw [hn]; decide)]⟩
   cases hd0 : digR x0 1 2 with
   | none => exact no rfl
   | some d =>
    cases hd2 : digR x2 4 4 with
    | none => exact no rfl
    | some y =>
     cases ht : timeR x3 with
     | none => exact no rfl
     | some t =>
      obtain ⟨rfl, rfl, rfl⟩ := e3 t ht
      cases hz : zoneR x4 with
      | none => exact no rfl
      | some z =>
       obtain rfl := e4 z hz
       exact ifin_ev wd hw named x1 d y t v4
  exact Ev.bind d0 (Ev.bind (ev_is m1) (Ev.bind d2 (Ev.bind t3 (Ev.bind z4 main))))
 ·rename_i hne
  refine ⟨0, fun k _ => ?_⟩
  have h5 : ws.length ≠ 5 := by
   intro h
   match ws, h, hne with
   | [a, b, c, d, e], _, hne => exact hne a b c d e rfl
  have : ∀ l : List ByteArray, l.length ≠ 5 → impl_ParseDate.words k (S wd) named l = some z8 := by
   intro l h
   match l, h with
   | [], _ => rfl
   | [_], _ => rfl
   | [_, _], _ => rfl
   | [_, _, _], _ => rfl
   | [_, _, _, _], _ => rfl
   | [_, _, _, _, _], h => exact absurd rfl h
   | _ :: _ :: _ :: _ :: _ :: _ :: _, _ => rfl
  exact this (SL ws) (by rw [SL_length]; exact h5)
theorem words_len {s : List UInt8} : ∀ p ∈ wordsS s, p.length ≤ s.length := fun p hp => (parts_each 32 s p (List.mem_filter.1 hp).1).1
theorem iparse_ev (s : List UInt8) (hl : s.length ≤ 1000000000) : Ev (fun k => impl_ParseDate.f k (S s)) (parseD s) := by
 unfold parseD
 simp only [impl_ParseDate.f]
 refine Ev.bind (impl_text s (by omega)) ?_
 by_cases ht : textOK s
 ·rw [if_pos ht]
  refine ev_pos (decide_eq_true ht) ?_
  have hc : strings_Cut.f (S s) (⟨#[44]⟩ : ByteArray) = some (S (Lib.cut s [44]).1, S (Lib.cut s [44]).2.1, (Lib.cut s [44]).2.2) := by
   unfold strings_Cut.f
   rw [if_pos ⟨by rw [size_S]; omega, rfl⟩]
   rfl
  obtain ⟨c1, c2⟩ := cut_len s 44
  have h2 := ht.1
  unfold parseC
  refine Ev.bind (ev_is hc) ?_
  have hsel : (if (Lib.cut s [44]).2.2 = true then S (Lib.cut s [44]).2.1 else S s) = S (if (Lib.cut s [44]).2.2 = true then (Lib.cut s [44]).2.1 else s) := by split <;> rfl
  have hlen : (if (Lib.cut s [44]).2.2 = true then (Lib.cut s [44]).2.1 else s).length ≤ 200 := by
   split
   ·omega
   ·omega
  simp only [hsel]
  generalize (if (Lib.cut s [44]).2.2 = true then (Lib.cut s [44]).2.1 else s) = q at hlen ⊢
  rw [psplit 32 q (by omega)]
  simp only [Option.bind_some, SL_length, filt_SL]
  have p1 := parts_length 32 q
  have p2 := parts_ne 32 q
  have p3 : 0 < (parts 32 q).length := List.length_pos_iff.2 p2
  refine ev_pos ⟨p3, by omega⟩ ?_
  exact iwords_ev _ (by omega) _ _ (fun p hp => by have := words_len (s := q) p hp; omega)
 ·rw [if_neg ht]
  exact ev_neg (by simpa using ht) (Ev.now _)
theorem sdigits_ev (s : List UInt8) (a b : Nat) (hab : a ≤ b) (hb : b ≤ 4) (hl : s.length ≤ 1000000000) : ∃ v : Int, Ev (fun k => spec_l4Digits.f k (S s) (a : Int) (b : Int)) (v, (digR s a b).isSome) ∧ ∀ m, digR s a b = some m → v = (m : Int) := by
 simp only [spec_l4Digits.f]
 have loop : ∀ (e i n : Nat), i + e = s.length → i ≤ b + 1 → n < 10 ^ i → (∀ j (h : j < s.length), j < i → isDg s[j]) → numF n (s.drop i) = numF 0 s → ∃ v : Int, Ev (fun k => spec_l4Digits.l0 k (S s) (a : Int) (b : Int) (n : Int) (i : Int)) (v, (digR s a b).isSome) ∧ ∀ m, digR s a b = some m → v = (m : Int) := by
  intro e
  induction e with
  | zero =>
   intro i n hi hib hn hp hv
   rw [List.drop_of_length_le (by omega)] at hv
   have hall : ∀ c ∈ s, isDg c := fun c hc => by
    obtain ⟨j, hj, rfl⟩ := List.mem_iff_getElem.1 hc
    exact hp j hj (by omega)
   have hv2 : n = numF 0 s := hv
   have st : ∀ {r : Int × Bool}, Ev (fun k => if (s.length : Int) ≥ (a : Int) then some ((n : Int), decide ((s.length : Int) ≤ (b : Int))) else some ((n : Int), false)) r → Ev (fun k => spec_l4Digits.l0 k (S s) (a : Int) (b : Int) (n : Int) (i : Int)) r := by
    intro r h
    refine Ev.step (fun k => by rw [spec_l4Digits.l0]) ?_
    rw [size_S]
    refine ev_neg (by omega) ?_
    refine Ev.step (fun k => by rw [spec_l4Digits.j1]) ?_
    rw [size_S]
    exact ev_neg (by decide) h
   by_cases h1 : a ≤ s.length
   ·by_cases h2 : s.length ≤ b
    ·have hd : digR s a b = some (numF 0 s) := by unfold digR; rw [if_pos ⟨h1, h2, hall⟩]
     rw [hd]
     refine ⟨n, st (ev_pos (by omega) (ev_is ?_)), fun m h => by rw [hv2]; exact congrArg _ (Option.some.inj h)⟩
     rw [decide_eq_true (by omega)]
     rfl
    ·have hd : digR s a b = none := by unfold digR; rw [if_neg (fun q => h2 q.2.1)]
     rw [hd]
     refine ⟨n, st (ev_pos (by omega) (ev_is ?_)), fun m h => by cases h⟩
     rw [decide_eq_false (by omega)]
     rfl
   ·have hd : digR s a b = none := by unfold digR; rw [if_neg (fun q => h1 q.1)]
    rw [hd]
    exact ⟨n, st (ev_neg (by omega) (Ev.now _)), fun m h => by cases h⟩
  | succ e ih =>
   intro i n hi hib hn hp hv
   have hlt : i < s.length := by omega
   have hg : s.getD i 0 = s[i] := by rw [List.getD_eq_getElem?_getD, List.getElem?_eq_getElem hlt]; rfl
   by_cases hle : i ≤ b
   ·have st : ∀ {r : Int × Bool}, Ev (fun k => if (s[i].toNat : Int) < 48 then some (0, false) else if (s[i].toNat : Int) > 57 then some (0, false) else spec_l4Digits.l0 k (S s) (a : Int) (b : Int) (wrap64 (wrap64 ((n : Int) * 10) + (((s[i].toNat : Int) - 48) % 256))) ((i + 1 : Nat) : Int)) r → Ev (fun k => spec_l4Digits.l0 k (S s) (a : Int) (b : Int) (n : Int) (i : Int)) r := by
     intro r h
     have w : wrap64 ((i : Int) + 1) = ((i + 1 : Nat) : Int) := by rw [w64 (by omega) (by omega)]; omega
     refine Ev.step (fun k => by rw [spec_l4Digits.l0]) ?_
     rw [size_S, decide_eq_true (show (i : Int) ≤ (b : Int) by omega)]
     refine ev_pos (by omega) ?_
     refine Ev.step (fun k => by rw [spec_l4Digits.j1]) ?_
     simp only [size_S, bt_S, Int.toNat_natCast, hg, w]
     exact ev_pos trivial (ev_pos (by omega) (ev_pos (by omega) h))
    by_cases hc : isDg s[i]
    ·have hc2 := hc
     unfold isDg at hc2
     have hten := ten_le (i := i) (by omega)
     have hp10 : 10 ^ (i + 1) = 10 ^ i * 10 := Nat.pow_succ 10 i
     have w1 : wrap64 ((n : Int) * 10) = ((10 * n : Nat) : Int) := by rw [w64 (by omega) (by omega)]; omega
     have w2 : wrap64 (((10 * n : Nat) : Int) + (((s[i].toNat : Int) - 48) % 256)) = ((10 * n + (s[i].toNat - 48) : Nat) : Int) := by rw [w64 (by omega) (by omega)]; omega
     rw [drop_cons hlt] at hv
     have hq : 10 * n + (s[i].toNat - 48) < 10 ^ (i + 1) := by omega
     obtain ⟨v, h1, h2⟩ := ih (i + 1) (10 * n + (s[i].toNat - 48)) (by omega) (by omega) hq (fun j hj hji => by
      by_cases q : j = i
      ·subst q
       exact hc
      ·exact hp j hj (by omega)) hv
     refine ⟨v, st ?_, h2⟩
     rw [w1, w2]
     exact ev_neg (by omega) (ev_neg (by omega) h1)
    ·have hd : digR s a b = none := by unfold digR; rw [if_neg (fun q => hc (q.2.2 _ (List.getElem_mem hlt)))]
     rw [hd]
     unfold isDg at hc
     refine ⟨0, st ?_, fun m h => by cases h⟩
     by_cases h3 : (s[i].toNat : Int) < 48
     ·exact ev_pos h3 (Ev.now _)
     ·exact ev_neg h3 (ev_pos (by omega) (Ev.now _))
   ·have hd : digR s a b = none := by unfold digR; rw [if_neg (fun q => by have := q.2.1; omega)]
    rw [hd]
    refine ⟨n, ?_, fun m h => by cases h⟩
    refine Ev.step (fun k => by rw [spec_l4Digits.l0]) ?_
    rw [size_S, decide_eq_false (show ¬ (i : Int) ≤ (b : Int) by omega)]
    refine ev_pos (by omega) ?_
    refine Ev.step (fun k => by rw [spec_l4Digits.j1]) ?_
    rw [size_S]
    refine ev_neg (by decide) (ev_pos (by omega) (ev_is ?_))
    rw [decide_eq_false (by omega)]
    rfl
 exact loop s.length 0 0 (by omega) (by omega) (by decide) (fun j _ h => by omega) rfl
theorem rd_SL {l : List (List UInt8)} {i : Nat} (h : i < l.length) : rdOf ByteArray.empty (SL l) (i : Int) = S l[i] := by
 unfold rdOf SL
 rw [Int.toNat_natCast, List.getD_eq_getElem?_getD, List.getElem?_map, List.getElem?_eq_getElem h]
 rfl
theorem stime_ev (s : List UInt8) (hl : s.length ≤ 1000000) (y mo d z : Int) : ∃ h m c : Int, Ev (fun k => spec_l4Time.f k (S s) y mo d 0 0 0 z) (y, mo, d, h, m, c, z, (timeR s).isSome) ∧ ∀ t, timeR s = some t → h = (t.1 : Int) ∧ m = (t.2.1 : Int) ∧ c = (t.2.2 : Int) := by
 have hd : ∀ p ∈ parts 58 s, ∃ v : Int, Ev (fun k => spec_l4Digits.f k (S p) 2 2) (v, (digR p 2 2).isSome) ∧ ∀ m, digR p 2 2 = some m → v = (m : Int) := fun p hp => sdigits_ev p 2 2 (by omega) (by omega) (by have := (parts_each 58 s p hp).1; omega)
 have hq := l2parts 58 s (by omega)
 have no : ∀ b : Bool, ¬ (2 ≤ (parts 58 s).length ∧ (parts 58 s).length ≤ 3) → timeR s = none → ∃ h m c : Int, Ev (fun k => spec_l4Time.f k (S s) y mo d 0 0 0 z) (y, mo, d, h, m, c, z, (timeR s).isSome) ∧ ∀ t, timeR s = some t → h = (t.1 : Int) ∧ m = (t.2.1 : Int) ∧ c = (t.2.2 : Int) := by
  intro b h1 h2
  rw [h2]
  refine ⟨0, 0, 0, ?_, fun t h => by cases h⟩
  simp only [spec_l4Time.f]
  refine Ev.bind hq ?_
  rw [SL_length]
  by_cases h3 : ((parts 58 s).length : Int) < 2
  ·refine ev_pos h3 (Ev.step (fun k => by rw [spec_l4Time.j0]) ?_)
   exact ev_pos rfl (Ev.now _)
  ·refine ev_neg h3 ?_
   rw [decide_eq_true (by omega)]
   refine Ev.step (fun k => by rw [spec_l4Time.j0]) ?_
   exact ev_pos rfl (Ev.now _)
 match hp : parts 58 s with
 | [] => exact absurd hp (parts_ne 58 s)
 | [a] => exact no true (by rw [hp]; simp) (by unfold timeR; rw [hp]; rfl)
 | a :: b :: c :: e :: r => exact no true (by rw [hp]; simp) (by unfold timeR; rw [hp]; rfl)
 | [a, b] =>
  rw [hp] at hd hq
  obtain ⟨v0, d0, f0⟩ := hd a (by simp)
  obtain ⟨v1, d1, f1⟩ := hd b (by simp)
  have hr : timeR s = (digR a 2 2).bind fun h => (digR b 2 2).bind fun m => some (h, m, 0) := by unfold timeR; rw [hp]; rfl
  have main : Ev (fun k => spec_l4Time.f k (S s) y mo d 0 0 0 z) (y, mo, d, v0, v1, 0, z, (digR a 2 2).isSome && (digR b 2 2).isSome) := by
   simp only [spec_l4Time.f]
   refine Ev.bind hq (ev_neg (by simp [SL]) ?_)
   refine Ev.step (fun k => by rw [spec_l4Time.j0]) ?_
   refine ev_neg (by simp [SL]) (ev_pos (by simp [SL]) (Ev.bind d0 (ev_pos (by simp [SL]) (Ev.bind d1 (ev_neg (by simp [SL]) ?_)))))
   cases (digR a 2 2).isSome with
   | false => exact ev_neg Bool.false_ne_true (Ev.now _)
   | true =>
    refine ev_pos rfl ?_
    cases (digR b 2 2).isSome with
    | false => exact ev_neg Bool.false_ne_true (Ev.now _)
    | true => exact ev_pos rfl (Ev.now _)
  rw [hr]
  refine ⟨v0, v1, 0, ev_eq ?_ main, ?_⟩
  ·cases digR a 2 2 <;> cases digR b 2 2 <;> rfl
  ·intro t h
   cases ea : digR a 2 2 with
   | none => rw [ea] at h; cases h
   | some n =>
    rw [ea] at h
    cases eb : digR b 2 2 with
    | none => rw [eb] at h; cases h
    | some m =>
     rw [eb] at h
     obtain rfl := Option.some.inj h
     exact ⟨f0 n ea, f1 m eb, rfl⟩
 | [a, b, c] =>
  rw [hp] at hd hq
  obtain ⟨v0, d0, f0⟩ := hd a (by simp)
  obtain ⟨v1, d1, f1⟩ := hd b (by simp)
  obtain ⟨v2, d2, f2⟩ := hd c (by simp)
  have hr : timeR s = (digR a 2 2).bind fun h => (digR b 2 2).bind fun m => (digR c 2 2).bind fun x => some (h, m, x) := by unfold timeR; rw [hp]; rfl
  have main : Ev (fun k => spec_l4Time.f k (S s) y mo d 0 0 0 z) (y, mo, d, v0, v1, v2, z, (digR a 2 2).isSome && ((digR b 2 2).isSome && (digR c 2 2).isSome)) := by
   simp only [spec_l4Time.f]
   refine Ev.bind hq (ev_neg (by simp [SL]) ?_)
   refine Ev.step (fun k => by rw [spec_l4Time.j0]) ?_
   refine ev_neg (by simp [SL]) (ev_pos (by simp [SL]) (Ev.bind d0 (ev_pos (by simp [SL]) (Ev.bind d1 (ev_pos (by simp [SL]) (ev_pos (by simp [SL]) (Ev.bind d2 ?_)))))))
   cases (digR a 2 2).isSome with
   | false => exact ev_neg Bool.false_ne_true (Ev.now _)
   | true =>
    refine ev_pos rfl ?_
    cases (digR b 2 2).isSome with
    | false => exact ev_neg Bool.false_ne_true (Ev.now _)
    | true => exact ev_pos rfl (Ev.now _)
  rw [hr]
  refine ⟨v0, v1, v2, ev_eq ?_ main, ?_⟩
  ·cases digR a 2 2 <;> cases digR b 2 2 <;> cases digR c 2 2 <;> rfl
  ·intro t h
   cases ea : digR a 2 2 with
   | none => rw [ea] at h; cases h
   | some n =>
    rw [ea] at h
    cases eb : digR b 2 2 with
    | none => rw [eb] at h; cases h
    | some m =>
     rw [eb] at h
     cases ec : digR c 2 2 with
     | none => rw [ec] at h; cases h
     | some x =>
      rw [ec] at h
      obtain rfl := Option.some.inj h
      exact ⟨f0 n ea, f1 m eb, f2 x ec⟩
theorem szone_ev (s : List UInt8) : ∃ v : Int, Ev (fun k => spec_l4Offset.f k (S s)) (v, (zoneR s).isSome) ∧ ∀ z, zoneR s = some z → v = z := by
 simp only [spec_l4Offset.f, toList_S]
 by_cases g1 : s = [71, 77, 84]
 ·rw [zoneR_gmt (Or.inl g1)]
  refine ⟨0, ev_pos g1 ?_, fun z h => Option.some.inj h⟩
  refine Ev.step (fun k => by rw [spec_l4Offset.j0]) ?_
  exact ev_pos rfl (Ev.now _)
 by_cases g2 : s = [85, 84]
 ·rw [zoneR_gmt (Or.inr g2)]
  refine ⟨0, ev_neg g1 ?_, fun z h => Option.some.inj h⟩
  refine Ev.step (fun k => by rw [spec_l4Offset.j0]) ?_
  exact ev_pos (beq_iff_eq.2 g2) (Ev.now _)
 have hg : ¬ (s = [71, 77, 84] ∨ s = [85, 84]) := fun q => q.elim g1 g2
 have start : ∀ {v : Int} {b : Bool}, Ev (fun k => if (s.length : Int) = 5 then (if 0 < (s.length : Int) then (if ((s.getD 0 0).toNat : Int) = 43 then spec_l4Offset.j1 k (S s) false else spec_l4Offset.j1 k (S s) (((s.getD 0 0).toNat : Int) != 45)) else none) else spec_l4Offset.j1 k (S s) true) (v, b) → Ev (fun k => if s = [71, 77, 84] then spec_l4Offset.j0 k (S s) true else spec_l4Offset.j0 k (S s) (s == [85, 84])) (v, b) := by
  intro v b h
  refine ev_neg g1 (Ev.step (fun k => by rw [spec_l4Offset.j0]) ?_)
  rw [size_S, zone_first]
  exact ev_neg (by simpa using g2) h
 have bad : Ev (fun k => spec_l4Offset.j1 k (S s) true) (0, false) := by
  refine Ev.step (fun k => by rw [spec_l4Offset.j1]) ?_
  exact ev_pos rfl (Ev.now _)
 by_cases h5 : s.length = 5
 ·by_cases h0 : s.getD 0 0 = 43 ∨ s.getD 0 0 = 45
  ·rw [zoneR_len hg ⟨h5, h0⟩]
   have hx1 : (S s).extract 1 3 = S ((s.drop 1).take 2) := by rw [extract_S]
   have hx2 : (S s).extract 3 5 = S (s.drop 3) := by rw [extract_S, List.take_of_length_le (by rw [List.length_drop]; omega)]
   obtain ⟨v0, d0, f0⟩ := sdigits_ev ((s.drop 1).take 2) 2 2 (by omega) (by omega) (by simp; omega)
   obtain ⟨v1, d1, f1⟩ := sdigits_ev (s.drop 3) 2 2 (by omega) (by omega) (by simp; omega)
   have main : ∃ b : Bool, ((digR ((s.drop 1).take 2) 2 2).isSome && (digR (s.drop 3) 2 2).isSome) = b ∧ Ev (fun k => if s = [71, 77, 84] then spec_l4Offset.j0 k (S s) true else spec_l4Offset.j0 k (S s) (s == [85, 84])) (if ((s.getD 0 0).toNat : Int) = 45 then wrap64 (-(wrap64 (wrap64 (v0 * 60) + v1))) else wrap64 (wrap64 (v0 * 60) + v1), b && decide (v1 ≤ 59)) := by
    refine ⟨_, rfl, start (ev_pos (by omega) (ev_pos (by omega) ?_))⟩
    have j1 : Ev (fun k => spec_l4Offset.j1 k (S s) false) (if ((s.getD 0 0).toNat : Int) = 45 then wrap64 (-(wrap64 (wrap64 (v0 * 60) + v1))) else wrap64 (wrap64 (v0 * 60) + v1), ((digR ((s.drop 1).take 2) 2 2).isSome && (digR (s.drop 3) 2 2).isSome) && decide (v1 ≤ 59)) := by
     refine Ev.step (fun k => by rw [spec_l4Offset.j1]) ?_
     simp only [size_S, h5, zone_first, hx1, hx2]
     refine ev_neg (by decide) (ev_pos (by decide) (ev_pos (by decide) (Ev.bind d0 (Ev.bind d1 (ev_pos (by decide) ?_)))))
     by_cases hz : ((s.getD 0 0).toNat : Int) = 45
     ·refine ev_pos hz ?_
      rw [if_pos hz]
      cases (digR ((s.drop 1).take 2) 2 2).isSome with
      | false => exact ev_neg Bool.false_ne_true (Ev.now _)
      | true =>
       refine ev_pos rfl ?_
       cases (digR (s.drop 3) 2 2).isSome with
       | false => exact ev_neg Bool.false_ne_true (Ev.now _)
       | true => exact ev_pos rfl (Ev.now _)
     ·refine ev_neg hz ?_
      rw [if_neg hz]
      cases (digR ((s.drop 1).take 2) 2 2).isSome with
      | false => exact ev_neg Bool.false_ne_true (Ev.now _)
      | true =>
       refine ev_pos rfl ?_
       cases (digR (s.drop 3) 2 2).isSome with
       | false => exact ev_neg Bool.false_ne_true (Ev.now _)
       | true => exact ev_pos rfl (Ev.now _)
    rcases h0 with h0 | h0
    ·exact ev_pos (by rw [h0]; rfl) j1
    ·refine ev_neg (by rw [h0]; decide) ?_
     rw [show (((s.getD 0 0).toNat : Int) != 45) = false by rw [h0]; rfl]
     exact j1
   obtain ⟨b, hb, main⟩ := main
   cases ea : digR ((s.drop 1).take 2) 2 2 with
   | none =>
    rw [ea] at hb
    obtain rfl : false = b := hb
    exact ⟨_, main, fun z h => by cases h⟩
   | some n =>
    rw [ea] at hb
    cases eb : digR (s.drop 3) 2 2 with
    | none =>
     rw [eb] at hb
     obtain rfl : false = b := hb
     exact ⟨_, main, fun z h => by cases h⟩
    | some m =>
     rw [eb] at hb
     obtain rfl : true = b := hb
     obtain rfl := f0 n ea
     obtain rfl := f1 m eb
     obtain ⟨z1, z2⟩ := zwrap (digR_hi ea) (digR_hi eb)
     rw [Int.mul_comm (n : Int) 60, z1, z2] at main
     rw [Option.bind_some, Option.bind_some]
     have hv : (if ((s.getD 0 0).toNat : Int) = 45 then -((60 * n + m : Nat) : Int) else ((60 * n + m : Nat) : Int)) = zoneV (s.getD 0 0 == 45) n m := by
      rcases h0 with h0 | h0
      ·rw [h0]
       rfl
      ·rw [h0]
       rfl
     rw [hv] at main
     by_cases h59 : m ≤ 59
     ·rw [decide_eq_true (by omega)] at main
      rw [if_pos h59]
      exact ⟨_, main, fun z q => Option.some.inj q⟩
     ·rw [decide_eq_false (by omega)] at main
      rw [if_neg h59]
      exact ⟨_, main, fun z q => by cases q⟩
  ·rw [zoneR_bad hg (fun q => h0 q.2)]
   refine ⟨0, start (ev_pos (by omega) (ev_pos (by omega) (ev_neg (fun q => h0 (Or.inl ((u8_is (n := 43) (by omega)).1 q))) ?_))), fun z h => by cases h⟩
   have e : ((((s.getD 0 0).toNat : Int)) != 45) = true := by
    rw [bne_iff_ne]
    exact fun q => h0 (Or.inr ((u8_is (n := 45) (by omega)).1 q))
   rw [e]
   exact bad
 ·rw [zoneR_bad hg (fun q => h5 q.1)]
  exact ⟨0, start (ev_neg (by omega) bad), fun z h => by cases h⟩
theorem ssame_is (a b : List UInt8) (ha : a.length ≤ 1000000000) (hb : b.length ≤ 1000000000) : spec_SameText.f (S a) (S b) = some (lowL a == lowL b) := by
 have e : ∀ x : List UInt8, x.length ≤ 1000000000 → spec_LowerText.f (S x) = some (S (lowL x)) := by
  intro x hx
  unfold spec_LowerText.f
  rw [if_pos (by rw [size_S]; omega)]
  rfl
 unfold spec_SameText.f
 rw [e a ha, e b hb, Option.bind_some, Option.bind_some, toList_S, toList_S]
theorem l1read_ev (s : List UInt8) (hl : s.length ≤ 1000000) : ∀ (n i : Nat) (out : List UInt8), i ≤ s.length → s.length - i ≤ n → out.length ≤ i → ∃ (o : ByteArray) (j : Int), Ev (fun k => spec_l1Read.l0 k (S s) (S out) (i : Int)) (o, j) ∧ (j = -1 ∨ ∃ m : Nat, j = (m : Int) ∧ i < m ∧ m ≤ s.length) := by
 intro n
 induction n with
 | zero =>
  intro i out hi hn ho
  refine ⟨S [], -1, Ev.step (fun k => by rw [spec_l1Read.l0]) ?_, Or.inl rfl⟩
  rw [size_S]
  exact ev_neg (by omega) (Ev.now _)
 | succ n ih =>
  intro i out hi hn ho
  by_cases hlt : i < s.length
  ·have hg : s.getD i 0 = s[i] := by rw [List.getD_eq_getElem?_getD, List.getElem?_eq_getElem hlt]; rfl
   have w : wrap64 ((i : Int) + 1) = ((i + 1 : Nat) : Int) := by rw [w64 (by omega) (by omega)]; omega
   have w2 : wrap64 (((i + 1 : Nat) : Int) + 1) = ((i + 2 : Nat) : Int) := by rw [w64 (by omega) (by omega)]; omega
   have st : ∀ {r : ByteArray × Int}, Ev (fun k => if (s[i].toNat : Int) = 34 then some (S out, ((i + 1 : Nat) : Int)) else if (s[i].toNat : Int) = 92 then (if ((i + 1 : Nat) : Int) = (s.length : Int) then some (S [], (-1)) else if (0 : Int) ≤ ((i + 1 : Nat) : Int) then (if ((i + 1 : Nat) : Int) ≤ ((i + 2 : Nat) : Int) then (if ((i + 2 : Nat) : Int) ≤ (s.length : Int) then (if out.length + ((s.drop (i + 1)).take (i + 2 - (i + 1))).length ≤ 9223372036854775807 then spec_l1Read.l0 k (S s) (S (out ++ (s.drop (i + 1)).take (i + 2 - (i + 1)))) ((i + 2 : Nat) : Int) else none) else none) else none) else none)
     else if (i : Int) ≤ ((i + 1 : Nat) : Int) then (if ((i + 1 : Nat) : Int) ≤ (s.length : Int) then (if out.length + ((s.drop i).take (i + 1 - i)).length ≤ 9223372036854775807 then spec_l1Read.l0 k (S s) (S (out ++ (s.drop i).take (i + 1 - i))) ((i + 1 : Nat) : Int) else none) else none) else none) r → Ev (fun k => spec_l1Read.l0 k (S s) (S out) (i : Int)) r := by
    intro r h
    refine Ev.step (fun k => by rw [spec_l1Read.l0]) ?_
    simp only [size_S, bt_S, Int.toNat_natCast, hg, w, w2, extract_S, append_S]
    exact ev_pos (by omega) (ev_pos (by omega) h)
   by_cases h34 : (s[i].toNat : Int) = 34
   ·exact ⟨_, _, st (ev_pos h34 (Ev.now _)), Or.inr ⟨i + 1, rfl, by omega, by omega⟩⟩
   by_cases h92 : (s[i].toNat : Int) = 92
   ·by_cases he : i + 1 = s.length
    ·exact ⟨S [], -1, st (ev_neg h34 (ev_pos h92 (ev_pos (by omega) (Ev.now _)))), Or.inl rfl⟩
    ·have l1 : ((s.drop (i + 1)).take (i + 2 - (i + 1))).length ≤ 1 := by rw [List.length_take]; omega
     obtain ⟨o, j, h1, h2⟩ := ih (i + 2) (out ++ (s.drop (i + 1)).take (i + 2 - (i + 1))) (by omega) (by omega) (by rw [List.length_append]; omega)
     refine ⟨o, j, st (ev_neg h34 (ev_pos h92 (ev_neg (by omega) (ev_pos (by omega) (ev_pos (by omega) (ev_pos (by omega) (ev_pos (by omega) h1))))))), ?_⟩
     rcases h2 with h2 | ⟨m, q1, q2, q3⟩
     ·exact Or.inl h2
     ·exact Or.inr ⟨m, q1, by omega, q3⟩
   ·have l1 : ((s.drop i).take (i + 1 - i)).length ≤ 1 := by rw [List.length_take]; omega
    obtain ⟨o, j, h1, h2⟩ := ih (i + 1) (out ++ (s.drop i).take (i + 1 - i)) (by omega) (by omega) (by rw [List.length_append]; omega)
    refine ⟨o, j, st (ev_neg h34 (ev_neg h92 (ev_pos (by omega) (ev_pos (by omega) (ev_pos (by omega) h1))))), ?_⟩
    rcases h2 with h2 | ⟨m, q1, q2, q3⟩
    ·exact Or.inl h2
    ·exact Or.inr ⟨m, q1, by omega, q3⟩
  ·refine ⟨S [], -1, Ev.step (fun k => by rw [spec_l1Read.l0]) ?_, Or.inl rfl⟩
   rw [size_S]
   exact ev_neg (by omega) (Ev.now _)
theorem l2cut_step {s : List UInt8} {i : Nat} (hlt : i < s.length) (hl : s.length ≤ 1000000) (hq : s[i] ≠ 34) {r : ByteArray × ByteArray × Bool}
  (h : Ev (fun k => if s[i] = 44 then some (S (s.take i), S (s.drop (i + 1)), true) else spec_l2Cut.l0 k (S s) 44 ((i + 1 : Nat) : Int)) r) : Ev (fun k => spec_l2Cut.l0 k (S s) 44 (i : Int)) r := by
 have hg : s.getD i 0 = s[i] := by rw [List.getD_eq_getElem?_getD, List.getElem?_eq_getElem hlt]; rfl
 have w : wrap64 ((i : Int) + 1) = ((i + 1 : Nat) : Int) := by rw [w64 (by omega) (by omega)]; omega
 have x1 : (S s).extract 0 i = S (s.take i) := by rw [extract_S, List.drop_zero, Nat.sub_zero]
 have x2 : (S s).extract (i + 1) s.length = S (s.drop (i + 1)) := by rw [extract_S, List.take_of_length_le (by rw [List.length_drop]; omega)]
 refine Ev.step (fun k => by rw [spec_l2Cut.l0]) ?_
 simp only [size_S, bt_S, Int.toNat_natCast, hg, w, x1, x2]
 refine ev_pos (by omega) (ev_pos (by omega) (ev_neg (fun q => hq ((u8_is (n := 34) (by omega)).1 q)) ?_))
 by_cases hc : s[i] = 44
 ·simp only [hc, if_true] at h
  exact ev_pos (by rw [hc]; rfl) (ev_pos (by omega) (ev_pos (by omega) (ev_pos (by omega) h)))
 ·simp only [hc, if_false] at h
  exact ev_neg (fun q => hc ((u8_is (n := 44) (by omega)).1 q)) h
theorem l2cut_end {s : List UInt8} {i : Nat} (h : ¬ i < s.length) : Ev (fun k => spec_l2Cut.l0 k (S s) 44 (i : Int)) (S s, S [], false) := by
 refine Ev.step (fun k => by rw [spec_l2Cut.l0]) ?_
 rw [size_S]
 exact ev_neg (by omega) (Ev.now _)
theorem l2cut_plain (s : List UInt8) (hl : s.length ≤ 1000000) (hq : 34 ∉ s) : Ev (fun k => spec_l2Cut.f k (S s) 44) (S (Lib.cut s [44]).1, S (Lib.cut s [44]).2.1, (Lib.cut s [44]).2.2) := by
 simp only [spec_l2Cut.f]
 have loop : ∀ (e i : Nat), i + e = s.length → (∀ x ∈ s.take i, x ≠ 44) → Ev (fun k => spec_l2Cut.l0 k (S s) 44 (i : Int)) (S (Lib.cut s [44]).1, S (Lib.cut s [44]).2.1, (Lib.cut s [44]).2.2) := by
  intro e
  induction e with
  | zero =>
   intro i hi hn
   rw [List.take_of_length_le (by omega)] at hn
   rw [cut_none hn]
   exact l2cut_end (by omega)
  | succ e ih =>
   intro i hi hn
   have hlt : i < s.length := by omega
   refine l2cut_step hlt hl (fun q => hq (by rw [← q]; exact List.getElem_mem hlt)) ?_
   by_cases hc : s[i] = 44
   ·have hs : s = s.take i ++ 44 :: s.drop (i + 1) := by
     rw [← hc, ← drop_cons hlt, List.take_append_drop]
    have hcut : Lib.cut s [44] = (s.take i, s.drop (i + 1), true) := by
     have := cut_at (r := s.drop (i + 1)) hn
     rwa [← hs] at this
    rw [hcut]
    exact ev_pos hc (Ev.now _)
   ·refine ev_neg hc (ih (i + 1) (by omega) ?_)
    intro x hx
    rw [List.take_succ_eq_append_getElem hlt] at hx
    rcases List.mem_append.1 hx with hx | hx
    ·exact hn x hx
    ·simp only [List.mem_singleton] at hx
     rw [hx]
     exact hc
 exact loop s.length 0 (by omega) (fun x hx => by simp at hx)
theorem l2cut_some (s : List UInt8) (hl : s.length ≤ 1000000) : ∃ q : List UInt8 × List UInt8 × Bool, Ev (fun k => spec_l2Cut.f k (S s) 44) (S q.1, S q.2.1, q.2.2) ∧ (q.2.2 = false ∨ (q.2.2 = true ∧ s = q.1 ++ 44 :: q.2.1)) := by
 simp only [spec_l2Cut.f]
 have loop : ∀ (n i : Nat), i ≤ s.length → s.length - i ≤ n → ∃ q : List UInt8 × List UInt8 × Bool, Ev (fun k => spec_l2Cut.l0 k (S s) 44 (i : Int)) (S q.1, S q.2.1, q.2.2) ∧ (q.2.2 = false ∨ (q.2.2 = true ∧ s = q.1 ++ 44 :: q.2.1)) := by
  intro n
  induction n with
  | zero =>
   intro i hi hn
   exact ⟨(s, [], false), l2cut_end (by omega), Or.inl rfl⟩
  | succ n ih =>
   intro i hi hn
   by_cases hlt : i < s.length
   ·by_cases hq : s[i] = 34
    ·have hg : s.getD i 0 = s[i] := by rw [List.getD_eq_getElem?_getD, List.getElem?_eq_getElem hlt]; rfl
     have w : wrap64 ((i : Int) + 1) = ((i + 1 : Nat) : Int) := by rw [w64 (by omega) (by omega)]; omega
     obtain ⟨o, j, h1, h2⟩ := l1read_ev s hl s.length (i + 1) [] (by omega) (by omega) (by simp)
     have h3 : Ev (fun k => spec_l1Read.f k (S s) (i : Int)) (o, j) := by
      simp only [spec_l1Read.f, w]
      exact h1
     have st : ∀ {r : ByteArray × ByteArray × Bool}, Ev (fun k => if j < 0 then some (S s, S [], false) else spec_l2Cut.l0 k (S s) 44 j) r → Ev (fun k => spec_l2Cut.l0 k (S s) 44 (i : Int)) r := by
      intro r h
      refine Ev.step (fun k => by rw [spec_l2Cut.l0]) ?_
      simp only [size_S, bt_S, Int.toNat_natCast, hg]
      exact ev_pos (by omega) (ev_pos (by omega) (ev_pos (by rw [hq]; rfl) (Ev.bind h3 h)))
     rcases h2 with rfl | ⟨m, rfl, q1, q2⟩
     ·exact ⟨(s, [], false), st (ev_pos (by decide) (Ev.now _)), Or.inl rfl⟩
     ·obtain ⟨q, a1, a2⟩ := ih m q2 (by omega)
      exact ⟨q, st (ev_neg (by omega) a1), a2⟩
    ·by_cases hc : s[i] = 44
     ·refine ⟨(s.take i, s.drop (i + 1), true), l2cut_step hlt hl hq (ev_pos hc (Ev.now _)), Or.inr ⟨rfl, ?_⟩⟩
      show s = s.take i ++ 44 :: s.drop (i + 1)
      rw [← hc, ← drop_cons hlt, List.take_append_drop]
     ·obtain ⟨q, a1, a2⟩ := ih (i + 1) (by omega) (by omega)
      exact ⟨q, l2cut_step hlt hl hq (ev_neg hc a1), a2⟩
   ·exact ⟨(s, [], false), l2cut_end hlt, Or.inl rfl⟩
 exact loop s.length 0 (by omega) (by omega)
theorem sfin_ev (wd : List UInt8) (hw : wd.length ≤ 1000000) (named : Bool) (x1 : List UInt8) (d y : Nat) (t : Nat × Nat × Nat) (z : Int) :
  Ev (fun k => (spec_DateValid.f k (y : Int) (monN x1 : Int) (d : Int) (t.1 : Int) (t.2.1 : Int) (t.2.2 : Int) z).bind fun v => if v = true then (if named = true then (spec_WeekdayOf.f k (y : Int) (monN x1 : Int) (d : Int) (t.1 : Int) (t.2.1 : Int) (t.2.2 : Int) z).bind fun wk => (spec_SameText.f (S (trim wd)) wk).bind fun b => if b = true then some ((y : Int), (monN x1 : Int), (d : Int), (t.1 : Int), (t.2.1 : Int), (t.2.2 : Int), z, true) else some (0, 0, 0, 0, 0, 0, 0, false) else some ((y : Int), (monN x1 : Int), (d : Int), (t.1 : Int), (t.2.1 : Int), (t.2.2 : Int), z, true)) else some (0, 0, 0, 0, 0, 0, 0, false)) (saidD wd named x1 d y t z) := by
 refine Ev.bind (svalid_ev _ _ _ _ _ _ _) ?_
 by_cases H : Valid (y : Int) (monN x1 : Int) (d : Int) (t.1 : Int) (t.2.1 : Int) (t.2.2 : Int) z
 ·refine ev_pos (decide_eq_true H) ?_
  cases named with
  | false =>
   refine ev_eq (if_pos ⟨H, fun h => by cases h⟩) ?_
   exact ev_neg (by decide) (Ev.now _)
  | true =>
   refine ev_pos rfl ?_
   refine Ev.bind (spec_wk H) ?_
   have l1 := wdB_len (dayN (y : Int) (monN x1 : Int) (d : Int))
   have l2 := trim_len wd
   unfold wkd
   rw [ssame_is _ _ (by omega) (by omega)]
   simp only [Option.bind_some]
   by_cases h : lowL (trim wd) = lowL (wdB (dayN (y : Int) (monN x1 : Int) (d : Int) % 7).toNat)
   ·refine ev_eq (if_pos ⟨H, fun _ => h⟩) ?_
    exact ev_pos (beq_iff_eq.2 h) (Ev.now _)
   ·refine ev_eq (if_neg (fun q => h (q.2 rfl))) ?_
    exact ev_neg (by simpa using h) (Ev.now _)
 ·refine ev_eq (if_neg (fun q => H q.1)) ?_
  exact ev_neg (by simpa using H) (Ev.now _)
theorem smonths_ev {R : D8} (wd : ByteArray) (named : Bool) (x0 x1 x2 x3 x4 : List UInt8) (hx : x1.length ≤ 1000000) (p : Bool) (dy : Int)
  (H : Ev (fun k => spec_ParseDate.l1 k wd named (SL [x0, x1, x2, x3, x4]) p 12 0 (monN x1 : Int) dy 0 0 0 0) R) : Ev (fun k => spec_ParseDate.l1 k wd named (SL [x0, x1, x2, x3, x4]) p 0 0 0 dy 0 0 0 0) R := by
 have loop : ∀ (e j : Nat), j + e = 12 → Ev (fun k => spec_ParseDate.l1 k wd named (SL [x0, x1, x2, x3, x4]) p (j : Int) 0 (monM j (lowL x1) : Int) dy 0 0 0 0) R := by
  intro e
  induction e with
  | zero =>
   intro j hj
   obtain rfl : j = 12 := by omega
   exact H
  | succ e ih =>
   intro j hj
   have h3 : (monB j).length = 3 := monB_len (by omega)
   have w : wrap64 ((j : Int) + 1) = ((j + 1 : Nat) : Int) := by rw [w64 (by omega) (by omega)]; omega
   have rm : spec_l4Months.f = some monL := rfl
   have rl : (monL.length : Int) = 12 := rfl
   have r1 : rdOf ByteArray.empty monL (j : Int) = S (monB j) := monB_rd (by omega)
   have r2 : rdOf ByteArray.empty (SL [x0, x1, x2, x3, x4]) 1 = S x1 := rfl
   have h := ih (j + 1) (by omega)
   refine Ev.step (fun k => by rw [spec_ParseDate.l1]) ?_
   simp only [rm, Option.bind_some, rl, r1, r2, w, ssame_is x1 (monB j) (by omega) (by omega)]
   refine ev_pos (by omega) (ev_pos (by simp [SL]) (ev_pos (by omega) (ev_pos (by omega) ?_)))
   unfold monM at h
   by_cases hm : lowL x1 = lowL (monB j)
   ·rw [if_pos hm] at h
    exact ev_pos (beq_iff_eq.2 hm) h
   ·rw [if_neg hm] at h
    exact ev_neg (by simpa using hm) h
 exact loop 12 0 (by omega)
theorem swords_ev (wd : List UInt8) (hw : wd.length ≤ 1000000) (wd' : List UInt8) (named : Bool) (hwd : named = true → wd' = trim wd) (ws all : List (List UInt8)) (n : Nat) (hn : ¬ n < all.length) (hs : ∀ p ∈ ws, p.length ≤ 1000000) : Ev (fun k => spec_ParseDate.l0 k (S wd') named (SL ws) (SL all) (n : Int)) (parseW wd named ws) := by
 refine Ev.step (fun k => by rw [spec_ParseDate.l0]) ?_
 rw [SL_length, SL_length]
 refine ev_neg (by omega) ?_
 by_cases h5 : ws.length = 5
 ·obtain ⟨x0, x1, x2, x3, x4, rfl⟩ : ∃ x0 x1 x2 x3 x4, ws = [x0, x1, x2, x3, x4] := by
   match ws, h5 with
   | [a, b, c, d, e], _ => exact ⟨a, b, c, d, e, rfl⟩
  show Ev _ (parse5 wd named x0 x1 x2 x3 x4)
  obtain ⟨v0, d0, f0⟩ := sdigits_ev x0 1 2 (by omega) (by omega) (by have := hs x0 (by simp); omega)
  obtain ⟨v2, d2, f2⟩ := sdigits_ev x2 4 4 (by omega) (by omega) (by have := hs x2 (by simp); omega)
  obtain ⟨h, m, c, t3, e3⟩ := stime_ev x3 (hs x3 (by simp)) v2 (monN x1 : Int) v0 0
  obtain ⟨v4, z4, e4⟩ := szone_ev x4
  refine ev_pos (by rfl) (ev_pos (by simp) (Ev.bind d0 ?_))
  refine smonths_ev (S wd') named x0 x1 x2 x3 x4 (by have := hs x1 (by simp); omega) _ v0 ?_
  refine Ev.step (fun k => by rw [spec_ParseDate.l1]) ?_
  refine ev_neg (by decide) (ev_pos (by simp [SL]) (Ev.bind d2 (ev_pos (by simp [SL]) (Ev.bind t3 (ev_pos (by simp [SL]) (Ev.bind z4 ?_))))))
  unfold parse5
  cases hd0 : digR x0 1 2 with
  | none => exact ev_neg Bool.false_ne_true (Ev.now _)
  | some d =>
   obtain rfl := f0 d hd0
   refine ev_pos rfl ?_
   cases hd2 : digR x2 4 4 with
   | none => exact ev_neg Bool.false_ne_true (Ev.now _)
   | some y =>
    obtain rfl := f2 y hd2
    refine ev_pos rfl ?_
    cases ht : timeR x3 with
    | none => exact ev_neg Bool.false_ne_true (Ev.now _)
    | some t =>
     obtain ⟨rfl, rfl, rfl⟩ := e3 t ht
     refine ev_pos rfl ?_
     cases hz : zoneR x4 with
     | none => exact ev_neg Bool.false_ne_true (Ev.now _)
     | some z =>
      obtain rfl := e4 z hz
      refine ev_pos rfl ?_
      have fin := sfin_ev wd hw named x1 d y t v4
      cases named with
      | true =>
       rw [hwd rfl]
       exact fin
      | false => exact fin
 ·rw [parseW_ne wd named h5]
  exact ev_neg (by omega) (Ev.now _)
theorem sfilter_ev (wd : List UInt8) (hw : wd.length ≤ 1000000) (wd' : List UInt8) (named : Bool) (hwd : named = true → wd' = trim wd) (all : List (List UInt8)) (hl : all.length ≤ 1000000) (hs : ∀ p ∈ all, p.length ≤ 1000000) : Ev (fun k => spec_ParseDate.l0 k (S wd') named ([] : List ByteArray) (SL all) 0) (parseW wd named (all.filter fun x => !(x == []))) := by
 have loop : ∀ (e i : Nat), i + e = all.length → Ev (fun k => spec_ParseDate.l0 k (S wd') named (SL ((all.take i).filter fun x => !(x == []))) (SL all) (i : Int)) (parseW wd named (all.filter fun x => !(x == []))) := by
  intro e
  induction e with
  | zero =>
   intro i hi
   rw [List.take_of_length_le (by omega)]
   exact swords_ev wd hw wd' named hwd _ all i (by omega) (fun p hp => hs p (List.mem_filter.1 hp).1)
  | succ e ih =>
   intro i hi
   have hlt : i < all.length := by omega
   have w : wrap64 ((i : Int) + 1) = ((i + 1 : Nat) : Int) := by rw [w64 (by omega) (by omega)]; omega
   have h := ih (i + 1) (by omega)
   have hf : ((all.take (i + 1)).filter fun x => !(x == [])) = ((all.take i).filter fun x => !(x == [])) ++ ([all[i]].filter fun x => !(x == [])) := by
    rw [List.take_succ_eq_append_getElem hlt, List.filter_append]
   rw [hf] at h
   have h4 : ((all.take i).filter fun x => !(x == [])).length ≤ i := Nat.le_trans (List.length_filter_le _ _) (by rw [List.length_take]; omega)
   refine Ev.step (fun k => by rw [spec_ParseDate.l0]) ?_
   simp only [SL_length, rd_SL hlt, toList_S, w]
   refine ev_pos (by omega) (ev_pos (by omega) ?_)
   by_cases he : all[i] = []
   ·have e1 : ([all[i]].filter fun x => !(x == [])) = [] := by rw [he]; rfl
    rw [e1, List.append_nil] at h
    exact ev_pos he h
   ·have e1 : ([all[i]].filter fun x => !(x == [])) = [all[i]] := by
     rw [List.filter_cons_of_pos (by simpa using he)]
     rfl
    rw [e1] at h
    rw [SL_one, SL_append]
    exact ev_neg he (ev_pos (by omega) h)
 exact loop all.length 0 (by omega)
theorem sparse_ev (s : List UInt8) (hl : s.length ≤ 1000000000) : Ev (fun k => spec_ParseDate.f k (S s)) (parseD s) := by
 unfold parseD
 simp only [spec_ParseDate.f]
 refine Ev.bind (spec_text s (by omega)) ?_
 by_cases ht : textOK s
 ·have h2 := ht.1
  rw [if_pos ht]
  refine ev_pos (decide_eq_true ht) ?_
  -- what stands behind the cut
  have rest : ∀ q : List UInt8 × List UInt8 × Bool, Ev (fun k => spec_l2Cut.f k (S s) 44) (S q.1, S q.2.1, q.2.2) → (q.2.2 = false ∨ (q.2.2 = true ∧ s = q.1 ++ 44 :: q.2.1)) → Ev (fun k => (spec_l2Cut.f k (S s) 44).bind fun bt => if bt.2.2 = true then (spec_l2Trim.f k bt.1).bind fun t => spec_ParseDate.j0 k bt.2.1 t bt.2.2 else spec_ParseDate.j0 k (S s) (⟨#[]⟩ : ByteArray) bt.2.2) (parseC s q) := by
   intro q hq hf
   refine Ev.bind hq ?_
   have jw : ∀ (x wd wd' : List UInt8) (named : Bool), x.length ≤ 200 → wd.length ≤ 200 → (named = true → wd' = trim wd) → Ev (fun k => spec_ParseDate.j0 k (S x) (S wd') named) (parseW wd named (wordsS x)) := by
    intro x wd wd' named h3 h4 h5
    have p1 := parts_length 32 x
    refine Ev.step (fun k => by rw [spec_ParseDate.j0]) ?_
    refine Ev.bind (l2parts 32 x (by omega)) ?_
    exact sfilter_ev wd (by omega) wd' named h5 (parts 32 x) (by omega) (fun p hp => by have := (parts_each 32 x p hp).1; omega)
   unfold parseC
   rcases hf with hf | ⟨hf, he⟩
   ·rw [hf, if_neg (by decide)]
    refine ev_neg (by decide) ?_
    have e0 : ∀ wd : List UInt8, parseW wd false (wordsS s) = parseW [] false (wordsS s) := by
     intro wd
     unfold parseW
     split
     ·unfold parse5 saidD
      simp
     ·rfl
    rw [e0]
    exact jw s [] [] false h2 (by simp) (fun h => by cases h)
   ·have l1 := congrArg List.length he
    rw [List.length_append, List.length_cons] at l1
    rw [hf, if_pos rfl]
    exact ev_pos rfl (Ev.bind (spec_trim q.1 (by omega)) (jw q.2.1 q.1 (trim q.1) true (by omega) (by omega) (fun _ => rfl)))
  by_cases hq : 34 ∈ s
  ·obtain ⟨q, a1, a2⟩ := l2cut_some s (by omega)
   have e1 : parseC s (Lib.cut s [44]) = z8 := by
    refine parseC_quote hq ?_
    rcases cut_form s 44 with h | ⟨a, r, he, h⟩
    ·rw [cut_none h]
     exact Or.inl rfl
    ·have := cut_at (r := r) h
     rw [← he] at this
     rw [this]
     exact Or.inr ⟨rfl, he⟩
   have e2 : parseC s q = z8 := parseC_quote hq a2
   rw [e1, ← e2]
   exact rest q a1 a2
  ·refine rest (Lib.cut s [44]) (l2cut_plain s (by omega) hq) ?_
   rcases cut_form s 44 with h | ⟨a, r, he, h⟩
   ·rw [cut_none h]
    exact Or.inl rfl
   ·have := cut_at (r := r) h
    rw [← he] at this
    rw [this]
    exact Or.inr ⟨rfl, he⟩
 ·rw [if_neg ht]
  exact ev_neg (by simpa using ht) (Ev.now _)
def tailL (M : List UInt8) (y d h mi s : Nat) (z : Int) : List UInt8 := dayD d ++ 32 :: (M ++ 32 :: (four y ++ 32 :: (timeL h mi s ++ 32 :: zoneL z)))
def letL (X : List UInt8) : Prop := ∀ c ∈ X, (65 ≤ c.toNat ∧ c.toNat ≤ 90) ∨ (97 ≤ c.toNat ∧ c.toNat ≤ 122)
theorem let_low {X : List UInt8} (h : letL X) : letL (lowL X) := fun c hc => Or.inr (low_letters h c hc)
theorem ne_of_nat {c : UInt8} {n : Nat} (hn : n < 256) (h : c.toNat ≠ n) : c ≠ UInt8.ofNat n := by
 rintro rfl
 rw [UInt8.toNat_ofNat'] at h
 omega
theorem let_ne {c : UInt8} (h : (65 ≤ c.toNat ∧ c.toNat ≤ 90) ∨ (97 ≤ c.toNat ∧ c.toNat ≤ 122)) : c ≠ 32 ∧ c ≠ 44 := ⟨ne_of_nat (n := 32) (by omega) (by omega), ne_of_nat (n := 44) (by omega) (by omega)⟩
def okC (c : UInt8) : Prop := 32 ≤ c.toNat ∧ c.toNat ≤ 126 ∧ c ≠ 44
theorem ok_let {c : UInt8} (h : (65 ≤ c.toNat ∧ c.toNat ≤ 90) ∨ (97 ≤ c.toNat ∧ c.toNat ≤ 122)) : okC c := ⟨by omega, by omega, (let_ne h).2⟩
theorem ok_dg {c : UInt8} (h : isDg c) : okC c := ⟨by unfold isDg at h; omega, by unfold isDg at h; omega, (isDg_ne h).2.2.1⟩
theorem time_in {h m s : Nat} (h1 : h < 100) (h2 : m < 100) (h3 : s < 100) : ∀ c ∈ timeL h m s, isDg c ∨ c = 58 := by
 intro c hc
 unfold timeL at hc
 simp only [List.mem_append, List.mem_cons] at hc
 rcases hc with hc | hc | hc | hc | hc
 ·exact Or.inl (two_isDg h1 c hc)
 ·exact Or.inr hc
 ·exact Or.inl (two_isDg h2 c hc)
 ·exact Or.inr hc
 ·exact Or.inl (two_isDg h3 c hc)
theorem zone_in {z : Int} (hz : absZ z < 841) : ∀ c ∈ zoneL z, isDg c ∨ c = 43 ∨ c = 45 := by
 intro c hc
 unfold zoneL at hc
 simp only [List.mem_append, List.mem_cons, List.not_mem_nil, or_false] at hc
 rcases hc with (hc | hc) | hc
 ·unfold sgn at hc
  split at hc
  ·exact Or.inr (Or.inr hc)
  ·exact Or.inr (Or.inl hc)
 ·exact Or.inl (two_isDg (by omega) c hc)
 ·exact Or.inl (two_isDg (by omega) c hc)
theorem tail_ok {M : List UInt8} {y d h mi s : Nat} {z : Int} (hM : letL M) (hy : y < 10000) (hd : d < 100) (hh : h < 100) (hmi : mi < 100) (hs : s < 100) (hz : absZ z < 841) : ∀ c ∈ tailL M y d h mi s z, okC c := by
 have o32 : okC 32 := by unfold okC; decide
 intro c hc
 unfold tailL at hc
 simp only [List.mem_append, List.mem_cons] at hc
 rcases hc with hc | rfl | hc | rfl | hc | rfl | hc | rfl | hc
 ·exact ok_dg (day_isDg hd c hc)
 ·exact o32
 ·exact ok_let (hM c hc)
 ·exact o32
 ·exact ok_dg (four_isDg hy c hc)
 ·exact o32
 ·rcases time_in hh hmi hs c hc with q | rfl
  ·exact ok_dg q
  ·unfold okC; decide
 ·exact o32
 ·rcases zone_in hz c hc with q | rfl | rfl
  ·exact ok_dg q
  ·unfold okC; decide
  ·unfold okC; decide
theorem time_len (h m s : Nat) : (timeL h m s).length = 8 := rfl
theorem tail_len {M : List UInt8} (hM : M.length = 3) (y d h mi s : Nat) (z : Int) : 25 ≤ (tailL M y d h mi s z).length + 5 ∧ (tailL M y d h mi s z).length ≤ 26 := by
 have := dayD_len d
 unfold tailL
 simp only [List.length_append, List.length_cons, four_len, time_len, zoneL_len, hM]
 omega
theorem tail_words {M : List UInt8} {y d h mi s : Nat} {z : Int} (hM : letL M) (hM3 : M.length = 3) (hy : y < 10000) (hd : d < 100) (hh : h < 100) (hmi : mi < 100) (hs : s < 100) (hz : absZ z < 841) :
  wordsS (tailL M y d h mi s z) = [dayD d, M, four y, timeL h mi s, zoneL z] := by
 have n0 : dayD d ≠ [] := fun q => by have := (dayD_len d).1; rw [q] at this; exact absurd this (by decide)
 have n1 : M ≠ [] := fun q => by rw [q] at hM3; exact absurd hM3 (by decide)
 unfold tailL
 rw [wordsS_cons (fun c hc => (isDg_ne (day_isDg hd c hc)).1) n0, wordsS_cons (fun c hc => (let_ne (hM c hc)).1) n1, wordsS_cons (fun c hc => (isDg_ne (four_isDg hy c hc)).1) (by unfold four; simp),
  wordsS_cons (fun c hc => by
   rcases time_in hh hmi hs c hc with q | rfl
   ·exact (isDg_ne q).1
   ·decide) (by unfold timeL two; simp),
  wordsS_last (fun c hc => by
   rcases zone_in hz c hc with q | rfl | rfl
   ·exact (isDg_ne q).1
   ·decide
   ·decide) (by unfold zoneL; simp)]
theorem abs_ok {z : Int} (h0 : -720 ≤ z) (h1 : z ≤ 840) : absZ z < 841 := by unfold absZ; omega
theorem said_ok {y m d h mi s z : Int} (H : Valid y m d h mi s z) {M wd : List UInt8} {named : Bool} (hM : (monN M : Int) = m) (hw : named = true → lowL (trim wd) = lowL (wdB (dayN y m d % 7).toNat)) :
  parseW wd named [dayD d.toNat, M, four y.toNat, timeL h.toNat mi.toNat s.toNat, zoneL z] = (y, m, d, h, mi, s, z, true) := by
 obtain ⟨y0, y1, m0, m1⟩ := H.1.ym
 obtain ⟨f1, f2, f3, f4, f5, f6, f7, f8, f9, f10⟩ := H.1
 have b3 := (dim_bd y m).2
 show parse5 wd named _ _ _ _ _ = _
 unfold parse5
 rw [digR_day (by omega), digR_four (by omega), timeR_time (by omega) (by omega) (by omega), zoneR_zone f9 f10]
 show saidD wd named M d.toNat y.toNat (h.toNat, mi.toNat, s.toNat) z = _
 unfold saidD
 have ey : ((y.toNat : Nat) : Int) = y := by omega
 have ed : ((d.toNat : Nat) : Int) = d := by omega
 have eh : ((h.toNat : Nat) : Int) = h := by omega
 have em : ((mi.toNat : Nat) : Int) = mi := by omega
 have es : ((s.toNat : Nat) : Int) = s := by omega
 simp only [ey, ed, eh, em, es, hM]
 rw [if_pos ⟨H, hw⟩]
theorem trim_let {X : List UInt8} (h : ∀ c ∈ X, c ≠ 32) : trim X = X := by
 have dw : ∀ l : List UInt8, (∀ c ∈ l, c ≠ 32) → l.dropWhile (· == 32) = l := by
  intro l hl
  cases l with
  | nil => rfl
  | cons a r => rw [List.dropWhile_cons_of_neg (by simpa using hl a (by simp))]
 unfold trim trimR trimL
 rw [dw X h, dw X.reverse (fun c hc => h c (List.mem_reverse.1 hc)), List.reverse_reverse]
theorem parse_tail {y m d h mi s z : Int} (H : Valid y m d h mi s z) {M : List UInt8} (hL : letL M) (h3 : M.length = 3) (hM : (monN M : Int) = m) : parseD (tailL M y.toNat d.toNat h.toNat mi.toNat s.toNat z) = (y, m, d, h, mi, s, z, true) := by
 obtain ⟨y0, y1, m0, m1⟩ := H.1.ym
 obtain ⟨f1, f2, f3, f4, f5, f6, f7, f8, f9, f10⟩ := H.1
 have b3 := (dim_bd y m).2
 have ok := tail_ok (y := y.toNat) (d := d.toNat) (h := h.toNat) (mi := mi.toNat) (s := s.toNat) (z := z) hL (by omega) (by omega) (by omega) (by omega) (by omega) (abs_ok f9 f10)
 have hl := tail_len h3 y.toNat d.toNat h.toNat mi.toNat s.toNat z
 have hw := tail_words (y := y.toNat) (d := d.toNat) (h := h.toNat) (mi := mi.toNat) (s := s.toNat) (z := z) hL h3 (by omega) (by omega) (by omega) (by omega) (by omega) (abs_ok f9 f10)
 unfold parseD
 rw [if_pos ⟨by omega, fun c hc => ⟨(ok c hc).1, (ok c hc).2.1⟩⟩, cut_none (fun c hc => (ok c hc).2.2)]
 show parseW _ false (wordsS (tailL M y.toNat d.toNat h.toNat mi.toNat s.toNat z)) = _
 rw [hw]
 exact said_ok H hM (fun q => by cases q)
theorem parse_named {y m d h mi s z : Int} (H : Valid y m d h mi s z) {X M : List UInt8} (hX : letL X) (hX3 : X.length = 3) (hXw : lowL X = lowL (wdB (dayN y m d % 7).toNat)) (hL : letL M) (h3 : M.length = 3) (hM : (monN M : Int) = m) :
  parseD (X ++ 44 :: 32 :: tailL M y.toNat d.toNat h.toNat mi.toNat s.toNat z) = (y, m, d, h, mi, s, z, true) := by
 obtain ⟨y0, y1, m0, m1⟩ := H.1.ym
 obtain ⟨f1, f2, f3, f4, f5, f6, f7, f8, f9, f10⟩ := H.1
 have b3 := (dim_bd y m).2
 have ok := tail_ok (y := y.toNat) (d := d.toNat) (h := h.toNat) (mi := mi.toNat) (s := s.toNat) (z := z) hL (by omega) (by omega) (by omega) (by omega) (by omega) (abs_ok f9 f10)
 have hl := tail_len h3 y.toNat d.toNat h.toNat mi.toNat s.toNat z
 have hw := tail_words (y := y.toNat) (d := d.toNat) (h := h.toNat) (mi := mi.toNat) (s := s.toNat) (z := z) hL h3 (by omega) (by omega) (by omega) (by omega) (by omega) (abs_ok f9 f10)
 unfold parseD
 have ht : textOK (X ++ 44 :: 32 :: tailL M y.toNat d.toNat h.toNat mi.toNat s.toNat z) := by
  refine ⟨by simp only [List.length_append, List.length_cons, hX3]; omega, fun c hc => ?_⟩
  simp only [List.mem_append, List.mem_cons] at hc
  rcases hc with hc | rfl | rfl | hc
  ·have := hX c hc
   omega
  ·decide
  ·decide
  ·exact ⟨(ok c hc).1, (ok c hc).2.1⟩
 rw [if_pos ht, cut_at (fun c hc => (let_ne (hX c hc)).2)]
 show parseW X true (wordsS (32 :: tailL M y.toNat d.toNat h.toNat mi.toNat s.toNat z)) = _
 rw [wordsS_space, hw]
 exact said_ok H hM (fun _ => by rw [trim_let (fun c hc => (let_ne (hX c hc)).1), hXw])
theorem fmt_tail (W : List UInt8) (y m d h mi s z : Int) : fmtL W y m d h mi s z = W ++ 44 :: 32 :: tailL (monB (m - 1).toNat) y.toNat d.toNat h.toNat mi.toNat s.toNat z := by
 unfold fmtL headL tailL timeL
 simp
theorem low_tail {M : List UInt8} {y d h mi s : Nat} {z : Int} (hy : y < 10000) (hd : d < 100) (hh : h < 100) (hmi : mi < 100) (hs : s < 100) (hz : absZ z < 841) : lowL (tailL M y d h mi s z) = tailL (lowL M) y d h mi s z := by
 have c32 : ∀ r : List UInt8, lowL (32 :: r) = 32 :: lowL r := fun r => rfl
 unfold tailL
 rw [lowL_app, c32, lowL_app, c32, lowL_app, c32, lowL_app, c32, lowL_same (fun c hc => (isDg_ne (day_isDg hd c hc)).2.2.2.2), lowL_same (fun c hc => (isDg_ne (four_isDg hy c hc)).2.2.2.2),
  lowL_same (s := timeL h mi s) (fun c hc => by
   rcases time_in hh hmi hs c hc with q | rfl
   ·exact (isDg_ne q).2.2.2.2
   ·decide),
  lowL_same (s := zoneL z) (fun c hc => by
   rcases zone_in hz c hc with q | rfl | rfl
   ·exact (isDg_ne q).2.2.2.2
   ·decide
   ·decide)]
theorem read_back {y m d h mi s z : Int} (H : Valid y m d h mi s z) {W : List UInt8} (hW : wkd (dayN y m d) = S W) :
  parseD (fmtL W y m d h mi s z) = (y, m, d, h, mi, s, z, true) ∧ parseD (lowL (fmtL W y m d h mi s z)) = (y, m, d, h, mi, s, z, true) ∧ parseD ((fmtL W y m d h mi s z).drop 5) = (y, m, d, h, mi, s, z, true) := by
 have eW : W = wdB (dayN y m d % 7).toNat := (S_inj hW).symm
 obtain ⟨y0, y1, m0, m1⟩ := H.1.ym
 obtain ⟨f1, f2, f3, f4, f5, f6, f7, f8, f9, f10⟩ := H.1
 have b3 := (dim_bd y m).2
 have hX : letL W := by rw [eW]; exact wdB_letters _
 have hX3 : W.length = 3 := by rw [eW]; exact wdB_len _
 have hL : letL (monB (m - 1).toNat) := monB_letters (by omega)
 have h3 : (monB (m - 1).toNat).length = 3 := monB_len (by omega)
 have hM : (monN (monB (m - 1).toNat) : Int) = m := by rw [monN_mon (by omega)]; omega
 have hM2 : (monN (lowL (monB (m - 1).toNat)) : Int) = m := by rw [monN_low (by omega)]; omega
 rw [fmt_tail]
 refine ⟨parse_named H hX hX3 (by rw [eW]) hL h3 hM, ?_, ?_⟩
 ·have e : lowL (W ++ 44 :: 32 :: tailL (monB (m - 1).toNat) y.toNat d.toNat h.toNat mi.toNat s.toNat z) = lowL W ++ 44 :: 32 :: tailL (lowL (monB (m - 1).toNat)) y.toNat d.toNat h.toNat mi.toNat s.toNat z := by
   rw [lowL_app, ← low_tail (by omega) (by omega) (by omega) (by omega) (by omega) (abs_ok f9 f10)]
   rfl
  rw [e]
  exact parse_named H (let_low hX) (by rw [lowL_len]; exact hX3) (by rw [low_low, eW]) (let_low hL) (by rw [lowL_len]; exact h3) hM2
 ·have e : (W ++ 44 :: 32 :: tailL (monB (m - 1).toNat) y.toNat d.toNat h.toNat mi.toNat s.toNat z).drop 5 = tailL (monB (m - 1).toNat) y.toNat d.toNat h.toNat mi.toNat s.toNat z := by
   match W, hX3 with
   | [a, b, c], _ => rfl
  rw [e]
  exact parse_tail H hL h3 hM
theorem same7 (y m d h mi s z : Int) : (y == y && (m == m && (d == d && (h == h && (mi == mi && (s == s && (z == z))))))) = true := by simp
theorem diff7 (y m d h mi s z : Int) : ¬ (!(y == y) || (!(m == m) || (!(d == d) || (!(h == h) || (!(mi == mi) || (!(s == s) || (!(z == z)))))))) = true := by simp
theorem saidD_form (wd : List UInt8) (named : Bool) (x1 : List UInt8) (d y : Nat) (t : Nat × Nat × Nat) (z : Int) : saidD wd named x1 d y t z = z8 ∨ ∃ y' m d' h mi s z' : Int, Valid y' m d' h mi s z' ∧ saidD wd named x1 d y t z = (y', m, d', h, mi, s, z', true) := by
 unfold saidD
 split
 ·rename_i h
  exact Or.inr ⟨_, _, _, _, _, _, _, h.1, rfl⟩
 ·exact Or.inl rfl
theorem parseD_form (t : List UInt8) : parseD t = z8 ∨ ∃ y m d h mi s z : Int, Valid y m d h mi s z ∧ parseD t = (y, m, d, h, mi, s, z, true) := by
 unfold parseD
 split
 ·unfold parseC parseW
  split
  ·unfold parse5
   cases digR _ 1 2 with
   | none => exact Or.inl rfl
   | some d =>
    cases digR _ 4 4 with
    | none => exact Or.inl rfl
    | some y =>
     cases timeR _ with
     | none => exact Or.inl rfl
     | some t =>
      cases zoneR _ with
      | none => exact Or.inl rfl
      | some z =>
       exact saidD_form _ _ _ _ _ _ _
  ·exact Or.inl rfl
 ·exact Or.inl rfl
theorem text_j3 (t : List UInt8) (r : D8) (hr : parseD t = r) : Ev (fun k => laws_FnDateText.j3 k r.2.2.2.2.2.2.2 r.2.2.2.2.2.2.2 (!r.2.2.2.2.2.2.2) r.1 r.2.1 r.2.2.1 r.2.2.2.1 r.2.2.2.2.1 r.2.2.2.2.2.1 r.2.2.2.2.2.2.1 r.1 r.2.1 r.2.2.1 r.2.2.2.1 r.2.2.2.2.1 r.2.2.2.2.2.1 r.2.2.2.2.2.2.1) true := by
 rcases parseD_form t with h | ⟨y, m, d, h, mi, s, z, H, e⟩
 ·rw [h] at hr
  subst hr
  refine Ev.step (fun k => by rw [laws_FnDateText.j3]) ?_
  exact ev_pos rfl (ev_pos rfl (Ev.now _))
 ·rw [e] at hr
  subst hr
  obtain ⟨W, hW, hWl, hi, _⟩ := fmt_ev H
  obtain ⟨r1, _, _⟩ := read_back H hW
  obtain ⟨_, _, m0, m1⟩ := H.1.ym
  have hlen := headL_len (y := y) (d := d) (h := h) (mi := mi) (s := s) hWl ⟨m0, m1⟩
  have p := iparse_ev (fmtL W y m d h mi s z) (by unfold fmtL; rw [List.length_append, zoneL_len]; omega)
  rw [r1] at p
  refine Ev.step (fun k => by rw [laws_FnDateText.j3]) ?_
  refine ev_neg Bool.false_ne_true (Ev.bind hi (Ev.bind p (Ev.bind (valid_ev y m d h mi s z) (ev_pos (decide_eq_true H) (ev_pos rfl (ev_is ?_))))))
  exact congrArg some (same7 y m d h mi s z)
theorem text_j2 (l1 : List Int) (h : Bytes l1) : Ev (fun k => laws_FnDateText.j2 k l1) true := by
 obtain ⟨t, ht, e⟩ := drawparse_ex l1 h
 refine Ev.step (fun k => by rw [laws_FnDateText.j2]) ?_
 refine Ev.bind e (Ev.bind (iparse_ev t (by omega)) (Ev.bind (sparse_ev t (by omega)) (ev_neg (diff7 _ _ _ _ _ _ _) (ev_neg (by simp) ?_))))
 exact text_j3 t (parseD t) rfl
theorem text_j1 (l1 : List Int) (h1 : Bytes l1) {y m d h mi s z : Int} (H : Valid y m d h mi s z) {W : List UInt8} (hW : wkd (dayN y m d) = S W) (hWl : W.length = 3) : Ev (fun k => laws_FnDateText.j1 k l1 (S (fmtL W y m d h mi s z)) false y m d h mi s z) true := by
 obtain ⟨r1, _, _⟩ := read_back H hW
 obtain ⟨_, _, m0, m1⟩ := H.1.ym
 have hlen := headL_len (y := y) (d := d) (h := h) (mi := mi) (s := s) hWl ⟨m0, m1⟩
 have hl : (fmtL W y m d h mi s z).length = (headL W y m d h mi s).length + 5 := by unfold fmtL; rw [List.length_append, zoneL_len]
 have p := iparse_ev (fmtL W y m d h mi s z) (by omega)
 rw [r1] at p
 refine Ev.step (fun k => by rw [laws_FnDateText.j1]) ?_
 rw [toList_S]
 refine ev_neg Bool.false_ne_true (ev_neg (fun q => ?_) (Ev.bind p (ev_pos rfl (ev_neg (diff7 _ _ _ _ _ _ _) (text_j2 l1 h1)))))
 rw [q, List.length_nil] at hl
 omega
theorem FnDateText : laws_FnDateText.Pure := by
 intro l0 l1 _ _ hw0 _ _ hw1
 refine Ev.rounds ?_
 have big : Ev (fun k => laws_FnDateText.j0 k l0 l1 true) true := by
  refine Ev.step (fun k => by rw [laws_FnDateText.j0]) ?_
  exact ev_pos rfl (Ev.now _)
 simp only [laws_FnDateText.f]
 by_cases hl : (l0.length : Int) > 1048576
 ·exact ev_pos hl big
 refine ev_neg hl ?_
 by_cases hl1 : (l1.length : Int) > 1048576
 ·rw [decide_eq_true hl1]
  exact big
 rw [decide_eq_false hl1]
 obtain ⟨y, m, d, h, mi, s, z, hd⟩ := drawfmt_ex l0 (bytes_wf hw0)
 refine Ev.step (fun k => by rw [laws_FnDateText.j0]) ?_
 refine ev_neg Bool.false_ne_true (Ev.bind hd ?_)
 by_cases H : Valid y m d h mi s z
 ·obtain ⟨W, hW, hWl, hi, hs⟩ := fmt_ev H
  obtain ⟨_, _, m0, m1⟩ := H.1.ym
  have hlen := headL_len (y := y) (d := d) (h := h) (mi := mi) (s := s) hWl ⟨m0, m1⟩
  have hl : (fmtL W y m d h mi s z).length = (headL W y m d h mi s).length + 5 := by unfold fmtL; rw [List.length_append, zoneL_len]
  have he : (!(S (fmtL W y m d h mi s z)).toList.isEmpty) = true := by
   rw [toList_S]
   cases hf : fmtL W y m d h mi s z with
   | nil =>
    rw [hf, List.length_nil] at hl
    omega
   | cons a r => rfl
  have hv := valid_ev y m d h mi s z
  have hsv := svalid_ev y m d h mi s z
  rw [decide_eq_true H] at hv hsv
  refine Ev.bind hi (Ev.bind hs (ev_pos rfl (Ev.bind hv ?_)))
  rw [he]
  exact ev_neg (by decide) (Ev.bind hv (Ev.bind hsv (text_j1 l1 (bytes_wf hw1) H hW hWl)))
 ·have e0 : (S []).toList = [] := toList_S []
  have hv := valid_ev y m d h mi s z
  have hsv := svalid_ev y m d h mi s z
  rw [decide_eq_false H] at hv hsv
  refine Ev.bind (ifmt_no H) (Ev.bind (sfmt_no H) (ev_pos rfl (Ev.bind hv ?_)))
  rw [e0]
  refine ev_neg (by decide) (Ev.bind hv (Ev.bind hsv ?_))
  refine Ev.step (fun k => by rw [laws_FnDateText.j1]) ?_
  exact ev_neg (by decide) (ev_pos e0 (text_j2 l1 (bytes_wf hw1)))
end Go.Proofs.YtafpbechcjcdbaaDoor.PLFnDateText
namespace Go.Proofs.YtafpbechcjcdbaaDoor.Pure
open Go.Proofs.YtafpbechcjcdbaaDoor.PFnDateText
theorem FnDateText : laws_FnDateText.Pure := PLFnDateText.FnDateText
end Go.Proofs.YtafpbechcjcdbaaDoor.Pure
