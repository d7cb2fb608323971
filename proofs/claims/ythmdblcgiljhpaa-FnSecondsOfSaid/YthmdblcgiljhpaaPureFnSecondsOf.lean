/- The law FnSecondsOf holds of the printed functions: dates are seconds. No conditions. -/
import Derived.Test.YthmdblcgiljhpaaPFnSecondsOfx9
import Derived.Test.YthmdblcgiljhpaaMBase
import Derived.Test.YthmdblcgiljhpaaMDate
namespace Go.Proofs.Ythmdblcgiljhpaa.PLFnSecondsOf
open Go.RowKit Go.Proofs.Ythmdblcgiljhpaa.PFnSecondsOf Go.Proofs.YthmdblcgiljhpaaW.PrintWords Go.Proofs.YthmdblcgiljhpaaW.PrintLast Go.Proofs.YthmdblcgiljhpaaW.PrintMore Go.Proofs.Ythmdblcgiljhpaa.M

theorem open_ex (l : List Int) (h : Bytes l) : ∃ b, spec_l13Open.f l = some (b, 0) ∧ Bytes b ∧ b.length ≤ 2000 := by
  unfold spec_l13Open.f
  by_cases e : (l.length : Int) > 2000
  · rw [if_pos e, if_pos (by omega)]
    exact ⟨_, rfl, bytes_take h _, by rw [List.length_take]; omega⟩
  · rw [if_neg e]
    exact ⟨_, rfl, h, by omega⟩

theorem pick_ev (b : List Int) (p n : Int) (hb : Bytes b) (hl : b.length ≤ 2000) (hp : 0 ≤ p) (hp1 : p ≤ 1000000) (hn : 1 ≤ n) :
    ∃ r, 0 ≤ r ∧ r < n ∧ Ev (fun k => spec_l13Rd_pick.f k b p n) (r, p + 1) := by
  have w1 : wrap64 (p + 1) = p + 1 := w64 (by omega) (by omega)
  have w2 : wrap64 (p + 1 - 1) = p := by
    rw [w64 (by omega) (by omega)]
    omega
  by_cases e0 : (b.length : Int) = 0
  · refine ⟨0, by omega, by omega, ?_⟩
    simp only [spec_l13Rd_pick.f]
    refine ev_neg (by omega) ?_
    rw [w1]
    refine Ev.step (fun k => by rw [spec_l13Rd_pick.j0]) ?_
    refine ev_pos (by simp [e0]) ?_
    exact Ev.now _
  · have f0 : ((b.length : Int) == 0) = false := beq_eq_false_iff_ne.mpr e0
    by_cases e1 : p < (b.length : Int)
    · obtain ⟨r0, r1⟩ := rd_bytes hb p
      have w3 : wrap64 (rd b p) = rd b p := w64 (by omega) (by omega)
      refine ⟨rd b p % n, Int.emod_nonneg _ (by omega), Int.emod_lt_of_pos _ (by omega), ?_⟩
      simp only [spec_l13Rd_pick.f]
      refine ev_neg (by omega) ?_
      rw [w1, f0]
      refine Ev.step (fun k => by rw [spec_l13Rd_pick.j0]) ?_
      simp only [w2, w3]
      refine ev_neg (by simp) (ev_pos e1 (ev_pos hp (ev_neg (by omega) ?_)))
      rw [Int.tmod_eq_emod_of_nonneg r0]
      exact Ev.now _
    · have hL : (0 : Int) < (b.length : Int) := by omega
      have t1 : Int.tmod p (b.length : Int) = p % (b.length : Int) := Int.tmod_eq_emod_of_nonneg hp
      have w4 : wrap64 (p * 7) = p * 7 := w64 (by omega) (by omega)
      have w5 : wrap64 (p * 7 + 3) = p * 7 + 3 := w64 (by omega) (by omega)
      have t2 : Int.tmod (p * 7 + 3) (b.length : Int) = (p * 7 + 3) % (b.length : Int) := Int.tmod_eq_emod_of_nonneg (by omega)
      have a0 := Int.emod_nonneg p (b := (b.length : Int)) (by omega)
      have a1 := Int.emod_lt_of_pos p hL
      have c0 := Int.emod_nonneg (p * 7 + 3) (b := (b.length : Int)) (by omega)
      have c1 := Int.emod_lt_of_pos (p * 7 + 3) hL
      obtain ⟨x0, x1⟩ := rd_bytes hb (p % (b.length : Int))
      obtain ⟨y0, y1⟩ := rd_bytes hb ((p * 7 + 3) % (b.length : Int))
      have d1 : Int.tdiv p (b.length : Int) = p / (b.length : Int) := Int.tdiv_eq_ediv_of_nonneg hp
      have d2 : 0 ≤ p / (b.length : Int) := Int.ediv_nonneg hp (by omega)
      have d3 : p / (b.length : Int) ≤ p := Int.ediv_le_self _ hp
      have ew1 : wrap64 (rd b (p % (b.length : Int))) = rd b (p % (b.length : Int)) := w64 (by omega) (by omega)
      have ew2 : wrap64 (rd b ((p * 7 + 3) % (b.length : Int))) = rd b ((p * 7 + 3) % (b.length : Int)) := w64 (by omega) (by omega)
      have ew3 : wrap64 (p / (b.length : Int)) = p / (b.length : Int) := w64 (by omega) (by omega)
      have hz : ∀ x y q : Int, 0 ≤ x → x < 256 → 0 ≤ y → y < 256 → 0 ≤ q → q ≤ p →
          wrap64 ((wrap64 ((wrap64 ((wrap64 (x * 131)) + (wrap64 (y * 1117)))) + (wrap64 (p * 29)))) + (wrap64 (q * 53))) = x * 131 + y * 1117 + p * 29 + q * 53 := by
        intro x y q hx hx1 hy hy1 hq hq1
        rw [w64 (n := x * 131) (by omega) (by omega), w64 (n := y * 1117) (by omega) (by omega), w64 (n := p * 29) (by omega) (by omega), w64 (n := q * 53) (by omega) (by omega),
          w64 (n := x * 131 + y * 1117) (by omega) (by omega), w64 (n := x * 131 + y * 1117 + p * 29) (by omega) (by omega), w64 (by omega) (by omega)]
      have hz' := hz _ _ _ x0 x1 y0 y1 d2 d3
      obtain ⟨S, hS⟩ : ∃ S, S = rd b (p % (b.length : Int)) * 131 + rd b ((p * 7 + 3) % (b.length : Int)) * 1117 + p * 29 + p / (b.length : Int) * 53 := ⟨_, rfl⟩
      rw [← hS] at hz'
      have s0 : 0 ≤ S ∧ S < 1000000000 := by omega
      have s1 : Int.tdiv S 64 = S / 64 := Int.tdiv_eq_ediv_of_nonneg s0.1
      have s2 : wrap64 (S / 64) = S / 64 := w64 (by omega) (by omega)
      have hx := xor_nonneg (x := S) (y := S / 64) (by omega) (by omega) (by omega) (by omega)
      refine ⟨bits .xor .i64 S (S / 64) % n, Int.emod_nonneg _ (by omega), Int.emod_lt_of_pos _ (by omega), ?_⟩
      simp only [spec_l13Rd_pick.f]
      refine ev_neg (by omega) ?_
      rw [w1, f0]
      refine Ev.step (fun k => by rw [spec_l13Rd_pick.j0]) ?_
      simp only [w2, t1, w4, w5, t2, d1, ew1, ew2, ew3, hz', s1, s2]
      refine ev_neg (by simp) (ev_neg e1 (ev_neg e0 (ev_pos a0 (ev_pos a1 (ev_pos c0 (ev_pos c1 (ev_neg (by omega) ?_)))))))
      rw [Int.tmod_eq_emod_of_nonneg hx]
      exact Ev.now _

theorem num_ev (b : List Int) (p : Int) (l : List Int) (hb : Bytes b) (hl : b.length ≤ 2000) (hp : 0 ≤ p) (hp1 : p ≤ 1000000) (hn : 1 ≤ l.length) :
    ∃ r, 0 ≤ r ∧ r < (l.length : Int) ∧ Ev (fun k => spec_l13Rd_num.f k b p l) (rd l r, p + 1) := by
  obtain ⟨r, h0, h1, h⟩ := pick_ev b p (l.length : Int) hb hl hp hp1 (by omega)
  refine ⟨r, h0, h1, ?_⟩
  simp only [spec_l13Rd_num.f]
  refine Ev.bind h ?_
  exact ev_pos h0 (ev_pos h1 (Ev.now _))

theorem leap_is (y : Int) (h : 0 ≤ y) : spec_l4Leap.f y = some (decide (y % 4 = 0) && (decide (y % 100 ≠ 0) || decide (y % 400 = 0))) := by
  unfold spec_l4Leap.f
  rw [Int.tmod_eq_emod_of_nonneg h, Int.tmod_eq_emod_of_nonneg h, Int.tmod_eq_emod_of_nonneg h]
  by_cases a : y % 4 = 0
  · by_cases b : y % 100 = 0
    · rw [if_pos a, if_pos b]
      simp [a, b]
      rfl
    · rw [if_pos a, if_neg b]
      simp [a, b]
  · rw [if_neg a]
    simp [a]

theorem spec_days (y m : Int) : Ev (fun k => spec_DaysOf.f k y m) (dim y m) := by
  simp only [spec_DaysOf.f]
  have hT : Ev (fun k => spec_DaysOf.j0 k y m true) 0 := by
    refine Ev.step (fun k => by rw [spec_DaysOf.j0]) ?_
    exact ev_pos rfl (Ev.now _)
  by_cases a : y < 1970
  · rw [dim_out (by omega)]
    exact ev_pos a hT
  refine ev_neg a ?_
  by_cases b : y > 2099
  · rw [dim_out (by omega)]
    exact ev_pos b hT
  refine ev_neg b ?_
  by_cases c : m < 1
  · rw [dim_out (by omega)]
    exact ev_pos c hT
  refine ev_neg c ?_
  by_cases d : m > 12
  · rw [dim_out (by omega)]
    simp only [d, decide_true]
    exact hT
  simp only [d, decide_false]
  refine Ev.step (fun k => by rw [spec_DaysOf.j0]) ?_
  refine ev_neg (by simp) ?_
  refine ev_bind0 rfl ?_
  have w : wrap64 (m - 1) = m - 1 := w64 (by omega) (by omega)
  by_cases e : m = 2
  · refine ev_pos e ?_
    refine ev_bind0 (leap_is y (by omega)) ?_
    subst e
    by_cases f : y % 4 = 0
    · have hl : (decide (y % 4 = 0) && (decide (y % 100 ≠ 0) || decide (y % 400 = 0))) = true := by
        have : y % 100 ≠ 0 ∨ y % 400 = 0 := by omega
        simp [f, this]
      refine ev_pos hl ?_
      have : dim y 2 = 29 := by unfold dim; rw [if_neg (by omega), if_pos rfl, if_pos f]
      rw [this]
      exact Ev.now _
    · have hl : ¬ (decide (y % 4 = 0) && (decide (y % 100 ≠ 0) || decide (y % 400 = 0))) = true := by simp [f]
      refine ev_neg hl ?_
      have : dim y 2 = 28 := by unfold dim; rw [if_neg (by omega), if_pos rfl, if_neg f]
      rw [this]
      refine ev_pos (by rw [w]; omega) (ev_pos (by rw [w]; decide) (ev_is (by rw [w]; rfl)))
  · refine ev_neg e ?_
    refine ev_pos (by rw [w]; omega) (ev_pos (by rw [w]; show m - 1 < 12; omega) (ev_is ?_))
    rw [w]
    have hd : dim y m = if m = 4 ∨ m = 6 ∨ m = 9 ∨ m = 11 then 30 else 31 := by unfold dim; rw [if_neg (by omega), if_neg e]
    rw [hd]
    have hm : m = 1 ∨ m = 3 ∨ m = 4 ∨ m = 5 ∨ m = 6 ∨ m = 7 ∨ m = 8 ∨ m = 9 ∨ m = 10 ∨ m = 11 ∨ m = 12 := by omega
    rcases hm with rfl | rfl | rfl | rfl | rfl | rfl | rfl | rfl | rfl | rfl | rfl <;> rfl

theorem days_j2 (y m : Int) (h0 : 1970 ≤ y) (h1 : y ≤ 2099) (c : Bool) : Ev (fun k => impl_DaysOf.j2 k y m c) (if c = true then 30 else if m = 2 then (if y % 4 = 0 then 29 else 28) else 0) := by
  refine Ev.step (fun k => by rw [impl_DaysOf.j2]) ?_
  rw [Int.tmod_eq_emod_of_nonneg (by omega), Int.tmod_eq_emod_of_nonneg (by omega), Int.tmod_eq_emod_of_nonneg (by omega)]
  cases c with
  | true => exact ev_pos rfl (Ev.now _)
  | false =>
    refine ev_neg (by simp) ?_
    by_cases e : m = 2
    · refine ev_pos e ?_
      by_cases f : y % 4 = 0
      · refine ev_eq (r := 29) (by simp [e, f]) ?_
        refine ev_pos f ?_
        by_cases g : y % 100 = 0
        · exact ev_pos g (ev_pos (by omega) (Ev.now _))
        · exact ev_neg g (Ev.now _)
      · refine ev_eq (r := 28) (by simp [e, f]) ?_
        exact ev_neg f (ev_neg (by omega) (Ev.now _))
    · refine ev_eq (r := 0) (by simp [e]) ?_
      exact ev_neg e (Ev.now _)

theorem days_j1 (y m : Int) (h0 : 1970 ≤ y) (h1 : y ≤ 2099) (c : Bool) : Ev (fun k => impl_DaysOf.j1 k y m c) (if c = true then 31 else if m = 4 ∨ m = 6 ∨ m = 9 ∨ m = 11 then 30 else if m = 2 then (if y % 4 = 0 then 29 else 28) else 0) := by
  refine Ev.step (fun k => by rw [impl_DaysOf.j1]) ?_
  cases c with
  | true => exact ev_pos rfl (Ev.now _)
  | false =>
    refine ev_neg (by simp) ?_
    rw [if_neg Bool.false_ne_true]
    by_cases e : m = 4 ∨ m = 6 ∨ m = 9 ∨ m = 11
    · rw [if_pos e]
      rcases e with e | e | e | e <;> subst e <;> simp <;> exact days_j2 y _ h0 h1 true
    · rw [if_neg e]
      refine ev_neg (by omega) (ev_neg (by omega) (ev_neg (by omega) ?_))
      have : (m == 11) = false := by simp; omega
      rw [this]
      exact days_j2 y m h0 h1 false

theorem impl_days (y m : Int) : Ev (fun k => impl_DaysOf.f k y m) (dim y m) := by
  simp only [impl_DaysOf.f]
  have hT : Ev (fun k => impl_DaysOf.j0 k y m true) 0 := by
    refine Ev.step (fun k => by rw [impl_DaysOf.j0]) ?_
    exact ev_pos rfl (Ev.now _)
  by_cases a : y < 1970
  · rw [dim_out (by omega)]
    exact ev_pos a hT
  refine ev_neg a ?_
  by_cases b : y > 2099
  · rw [dim_out (by omega)]
    simp only [b, decide_true]
    exact hT
  simp only [b, decide_false]
  refine Ev.step (fun k => by rw [impl_DaysOf.j0]) ?_
  refine ev_neg (by simp) ?_
  by_cases e : m = 1 ∨ m = 3 ∨ m = 5 ∨ m = 7 ∨ m = 8 ∨ m = 10 ∨ m = 12
  · have : dim y m = 31 := by unfold dim; rw [if_neg (by omega), if_neg (by omega), if_neg (by omega)]
    rw [this]
    rcases e with e | e | e | e | e | e | e <;> subst e <;> simp <;> exact days_j1 y _ (by omega) (by omega) true
  · have : dim y m = if m = 4 ∨ m = 6 ∨ m = 9 ∨ m = 11 then 30 else if m = 2 then (if y % 4 = 0 then 29 else 28) else 0 := by
      unfold dim
      by_cases g : m < 1 ∨ m > 12
      · rw [if_pos (by omega), if_neg (by omega), if_neg (by omega)]
      · rw [if_neg (by omega)]
        by_cases g2 : m = 2
        · have n4 : ¬ (m = 4 ∨ m = 6 ∨ m = 9 ∨ m = 11) := by omega
          rw [if_pos g2, if_neg n4, if_pos g2]
        · rw [if_neg g2]
          have : m = 4 ∨ m = 6 ∨ m = 9 ∨ m = 11 := by omega
          rw [if_pos this, if_pos this]
    rw [this]
    refine ev_neg (by omega) (ev_neg (by omega) (ev_neg (by omega) (ev_neg (by omega) (ev_neg (by omega) (ev_neg (by omega) ?_)))))
    have : (m == 12) = false := by simp; omega
    rw [this]
    exact days_j1 y m (by omega) (by omega) false

theorem between_is (a b c : Int) : impl_between.f a b c = some (decide (b ≤ a ∧ a ≤ c)) := by
  unfold impl_between.f
  by_cases h : a ≥ b
  · rw [if_pos h]
    have : b ≤ a := h
    simp [this]
  · rw [if_neg h]
    have : ¬ b ≤ a := h
    simp [this]

theorem zone_is (z : Int) : impl_isZone.f z = some (decide (-720 ≤ z ∧ z ≤ 840)) := by
  unfold impl_isZone.f
  rw [between_is]
  rfl

theorem before_in (y m S R : Int) (j : Nat) (hj : 1970 + (j : Int) < y) (hj2 : j < 130) (hS : 0 ≤ S ∧ S ≤ 1000)
    (hnext : Ev (fun k => impl_daysBefore.l0 k y m (S + cum (12 * (j + 1))) (1970 + ((j + 1 : Nat) : Int))) R) :
    ∀ e i : Nat, i + e = 12 → Ev (fun k => impl_daysBefore.l1 k y m (S + cum (12 * j + i)) (1970 + (j : Int)) (1 + (i : Int))) R := by
  intro e
  induction e with
  | zero =>
    intro i hi
    obtain rfl : i = 12 := by omega
    refine Ev.step (fun k => by rw [impl_daysBefore.l1]) ?_
    refine ev_neg (by omega) ?_
    have w : wrap64 (1970 + (j : Int) + 1) = 1970 + ((j + 1 : Nat) : Int) := by rw [w64 (by omega) (by omega)]; omega
    rw [w]
    exact hnext
  | succ e ih =>
    intro i hi
    refine Ev.step (fun k => by rw [impl_daysBefore.l1]) ?_
    refine ev_pos (by omega) (ev_pos hj ?_)
    refine Ev.bind (impl_days _ _) ?_
    have w : wrap64 (1 + (i : Int) + 1) = 1 + ((i + 1 : Nat) : Int) := by rw [w64 (by omega) (by omega)]; omega
    have hc : S + cum (12 * j + i) + dim (1970 + (j : Int)) (1 + (i : Int)) = S + cum (12 * j + (i + 1)) := by
      have : cum (12 * j + (i + 1)) = cum (12 * j + i) + dm (12 * j + i) := rfl
      rw [this, dm_add j i (by omega)]
      omega
    have b1 := cum_hi (12 * j + (i + 1))
    have b2 := cum_nonneg (12 * j + (i + 1))
    have w2 : wrap64 (S + cum (12 * j + i) + dim (1970 + (j : Int)) (1 + (i : Int))) = S + cum (12 * j + (i + 1)) := by rw [hc, w64 (by omega) (by omega)]
    rw [w, w2]
    exact ih (i + 1) (by omega)

theorem before_at (m S : Int) (J I : Nat) (hJ : J < 130) (hI : I < 12) (hm : m = 1 + (I : Int)) (hS : 0 ≤ S ∧ S ≤ 1000) :
    ∀ e i : Nat, i + e = I → Ev (fun k => impl_daysBefore.l1 k (1970 + (J : Int)) m (S + cum (12 * J + i)) (1970 + (J : Int)) (1 + (i : Int))) (S + cum (12 * J + I)) := by
  intro e
  induction e with
  | zero =>
    intro i hi
    obtain rfl : i = I := by omega
    refine Ev.step (fun k => by rw [impl_daysBefore.l1]) ?_
    refine ev_pos (by omega) (ev_neg (by omega) (ev_neg (by omega) ?_))
    have w : wrap64 (1970 + (J : Int) + 1) = 1971 + (J : Int) := by rw [w64 (by omega) (by omega)]; omega
    rw [w]
    refine Ev.step (fun k => by rw [impl_daysBefore.l0]) ?_
    exact ev_neg (by omega) (Ev.now _)
  | succ e ih =>
    intro i hi
    refine Ev.step (fun k => by rw [impl_daysBefore.l1]) ?_
    refine ev_pos (by omega) (ev_neg (by omega) (ev_pos (by omega) ?_))
    refine Ev.bind (impl_days _ _) ?_
    have w : wrap64 (1 + (i : Int) + 1) = 1 + ((i + 1 : Nat) : Int) := by rw [w64 (by omega) (by omega)]; omega
    have hc : S + cum (12 * J + i) + dim (1970 + (J : Int)) (1 + (i : Int)) = S + cum (12 * J + (i + 1)) := by
      have : cum (12 * J + (i + 1)) = cum (12 * J + i) + dm (12 * J + i) := rfl
      rw [this, dm_add J i (by omega)]
      omega
    have b1 := cum_hi (12 * J + (i + 1))
    have b2 := cum_nonneg (12 * J + (i + 1))
    have w2 : wrap64 (S + cum (12 * J + i) + dim (1970 + (J : Int)) (1 + (i : Int))) = S + cum (12 * J + (i + 1)) := by rw [hc, w64 (by omega) (by omega)]
    rw [w, w2]
    exact ih (i + 1) (by omega)

theorem before_from (m S : Int) (J I : Nat) (hJ : J < 130) (hI : I < 12) (hm : m = 1 + (I : Int)) (hS : 0 ≤ S ∧ S ≤ 1000) :
    ∀ e j : Nat, j + e = J → Ev (fun k => impl_daysBefore.l0 k (1970 + (J : Int)) m (S + cum (12 * j)) (1970 + (j : Int))) (S + cum (12 * J + I)) := by
  intro e
  induction e with
  | zero =>
    intro j hj
    obtain rfl : j = J := by omega
    refine Ev.step (fun k => by rw [impl_daysBefore.l0]) ?_
    refine ev_pos (by omega) ?_
    exact before_at m S j I hJ hI hm hS I 0 (by omega)
  | succ e ih =>
    intro j hj
    refine Ev.step (fun k => by rw [impl_daysBefore.l0]) ?_
    refine ev_pos (by omega) ?_
    exact before_in _ m S _ j (by omega) (by omega) hS (ih (j + 1) (by omega)) 12 0 (by omega)

theorem before_ev {y m : Int} (d : Int) (h0 : 1970 ≤ y) (h1 : y ≤ 2099) (h2 : 1 ≤ m) (h3 : m ≤ 12) (h4 : 1 ≤ d) (h5 : d ≤ 31) :
    Ev (fun k => impl_daysBefore.f k y m d) (d - 1 + cum (ix y m)) := by
  simp only [impl_daysBefore.f]
  rw [w64 (by omega) (by omega)]
  obtain ⟨J, rfl⟩ : ∃ J : Nat, y = 1970 + (J : Int) := ⟨(y - 1970).toNat, by omega⟩
  obtain ⟨I, rfl⟩ : ∃ I : Nat, m = 1 + (I : Int) := ⟨(m - 1).toNat, by omega⟩
  have e : ix (1970 + (J : Int)) (1 + (I : Int)) = 12 * J + I := by unfold ix; omega
  have h := before_from (1 + (I : Int)) (d - 1) J I (by omega) (by omega) rfl (by omega) J 0 (by omega)
  rw [e]
  have z : d - 1 + cum (12 * 0) = d - 1 := by show d - 1 + 0 = d - 1; omega
  rw [z] at h
  exact h

theorem seconds_ev {y m d h mi s z : Int} (H : Fields y m d h mi s z) : Ev (fun k => impl_Date_seconds.f k y m d h mi s z) (secs y m d h mi s z) := by
  obtain ⟨y0, y1, m0, m1⟩ := H.ym
  obtain ⟨f1, f2, f3, f4, f5, f6, f7, f8, f9, f10⟩ := H
  have b1 := cum_hi (ix y m)
  have b2 := cum_nonneg (ix y m)
  have b3 := (dim_bd y m).2
  simp only [impl_Date_seconds.f]
  refine Ev.bind (before_ev d y0 y1 m0 m1 f1 (by omega)) ?_
  refine ev_is ?_
  unfold secs
  rw [w64 (n := (d - 1 + cum (ix y m)) * 86400) (by omega) (by omega), w64 (n := h * 3600) (by omega) (by omega), w64 (n := mi * 60) (by omega) (by omega), w64 (n := z * 60) (by omega) (by omega),
    w64 (n := (d - 1 + cum (ix y m)) * 86400 + h * 3600) (by omega) (by omega), w64 (n := (d - 1 + cum (ix y m)) * 86400 + h * 3600 + mi * 60) (by omega) (by omega),
    w64 (n := (d - 1 + cum (ix y m)) * 86400 + h * 3600 + mi * 60 + s) (by omega) (by omega), w64 (by omega) (by omega)]
  congr 1
  omega

theorem valid_ev (y m d h mi s z : Int) : Ev (fun k => impl_DateValid.f k y m d h mi s z) (decide (Valid y m d h mi s z)) := by
  simp only [impl_DateValid.f, between_is, zone_is, Option.bind_some]
  refine Ev.bind (impl_days y m) ?_
  by_cases c1 : 1 ≤ d ∧ d ≤ dim y m
  · refine ev_pos (decide_eq_true c1) ?_
    by_cases c2 : 0 ≤ h ∧ h ≤ 23
    · refine ev_pos (decide_eq_true c2) ?_
      by_cases c3 : 0 ≤ mi ∧ mi ≤ 59
      · refine ev_pos (decide_eq_true c3) ?_
        by_cases c4 : 0 ≤ s ∧ s ≤ 59
        · refine ev_pos (decide_eq_true c4) ?_
          by_cases c5 : -720 ≤ z ∧ z ≤ 840
          · refine ev_pos (decide_eq_true c5) ?_
            have F : Fields y m d h mi s z := ⟨c1.1, c1.2, c2.1, c2.2, c3.1, c3.2, c4.1, c4.2, c5.1, c5.2⟩
            refine Ev.bind (seconds_ev F) ?_
            refine ev_is ?_
            congr 1
            rw [decide_eq_decide]
            unfold Valid
            constructor
            · intro q
              exact ⟨F, by omega, by omega⟩
            · intro q
              omega
          · refine ev_neg (by simpa using c5) (ev_is ?_)
            rw [decide_eq_false (fun q : Valid y m d h mi s z => c5 ⟨q.1.2.2.2.2.2.2.2.2.1, q.1.2.2.2.2.2.2.2.2.2⟩)]
        · refine ev_neg (by simpa using c4) (ev_is ?_)
          rw [decide_eq_false (fun q : Valid y m d h mi s z => c4 ⟨q.1.2.2.2.2.2.2.1, q.1.2.2.2.2.2.2.2.1⟩)]
      · refine ev_neg (by simpa using c3) (ev_is ?_)
        rw [decide_eq_false (fun q : Valid y m d h mi s z => c3 ⟨q.1.2.2.2.2.1, q.1.2.2.2.2.2.1⟩)]
    · refine ev_neg (by simpa using c2) (ev_is ?_)
      rw [decide_eq_false (fun q : Valid y m d h mi s z => c2 ⟨q.1.2.2.1, q.1.2.2.2.1⟩)]
  · refine ev_neg (by simpa using c1) (ev_is ?_)
    rw [decide_eq_false (fun q : Valid y m d h mi s z => c1 ⟨q.1.1, q.1.2.1⟩)]

theorem szone_is (z : Int) : spec_l4Zone.f z = some (decide (-720 ≤ z ∧ z ≤ 840)) := by
  unfold spec_l4Zone.f
  by_cases h : z ≥ -720
  · rw [if_pos h]
    have : -720 ≤ z := h
    simp [this]
  · rw [if_neg h]
    have : ¬ -720 ≤ z := h
    simp [this]


theorem sleap_is {y : Int} (h0 : 1970 ≤ y) (h1 : y ≤ 2099) : spec_l4Leap.f y = some (decide (y % 4 = 0)) := by
  rw [leap_is y (by omega)]
  congr 1
  by_cases f : y % 4 = 0
  · have : y % 100 ≠ 0 ∨ y % 400 = 0 := by omega
    simp [f, this]
  · simp [f]

theorem sfields_ev (y m d h mi s z : Int) : Ev (fun k => spec_l4Fields.f k y m d h mi s z) (decide (Fields y m d h mi s z)) := by
  simp only [spec_l4Fields.f, szone_is, Option.bind_some]
  by_cases c1 : d ≥ 1
  · refine ev_pos c1 ?_
    refine Ev.bind (spec_days y m) ?_
    by_cases c2 : d ≤ dim y m
    · refine ev_pos c2 ?_
      by_cases c3 : h ≥ 0
      · refine ev_pos c3 ?_
        by_cases c4 : h ≤ 23
        · refine ev_pos c4 ?_
          by_cases c5 : mi ≥ 0
          · refine ev_pos c5 ?_
            by_cases c6 : mi ≤ 59
            · refine ev_pos c6 ?_
              by_cases c7 : s ≥ 0
              · refine ev_pos c7 ?_
                by_cases c8 : s ≤ 59
                · refine ev_pos c8 (ev_is ?_)
                  congr 1
                  rw [decide_eq_decide]
                  exact ⟨fun q => ⟨c1, c2, c3, c4, c5, c6, c7, c8, q.1, q.2⟩, fun q => q.2.2.2.2.2.2.2.2⟩
                · refine ev_neg c8 (ev_is ?_)
                  rw [decide_eq_false (fun q : Fields y m d h mi s z => c8 q.2.2.2.2.2.2.2.1)]
              · refine ev_neg c7 (ev_is ?_)
                rw [decide_eq_false (fun q : Fields y m d h mi s z => c7 q.2.2.2.2.2.2.1)]
            · refine ev_neg c6 (ev_is ?_)
              rw [decide_eq_false (fun q : Fields y m d h mi s z => c6 q.2.2.2.2.2.1)]
          · refine ev_neg c5 (ev_is ?_)
            rw [decide_eq_false (fun q : Fields y m d h mi s z => c5 q.2.2.2.2.1)]
        · refine ev_neg c4 (ev_is ?_)
          rw [decide_eq_false (fun q : Fields y m d h mi s z => c4 q.2.2.2.1)]
      · refine ev_neg c3 (ev_is ?_)
        rw [decide_eq_false (fun q : Fields y m d h mi s z => c3 q.2.2.1)]
    · refine ev_neg c2 (ev_is ?_)
      rw [decide_eq_false (fun q : Fields y m d h mi s z => c2 q.2.1)]
  · refine ev_neg c1 (ev_is ?_)
    rw [decide_eq_false (fun q : Fields y m d h mi s z => c1 q.1)]

theorem sseconds_months {y m d h mi s z S R : Int} (J I : Nat) (hI : I < 12) (hy : y = 1970 + (J : Int)) (hm : m = 1 + (I : Int)) (hS : 0 ≤ S ∧ S ≤ 1000)
    (hR : R = wrap64 ((wrap64 ((wrap64 ((wrap64 ((wrap64 ((S + cum (12 * J + I)) * 86400)) + (wrap64 (h * 3600)))) + (wrap64 (mi * 60)))) + s)) - (wrap64 (z * 60)))) :
    ∀ e i : Nat, i + e = I → Ev (fun k => spec_l4Seconds.l1 k (S + cum (12 * J + i)) (1 + (i : Int)) y m d h mi s z) R := by
  intro e
  induction e with
  | zero =>
    intro i hi
    obtain rfl : i = I := by omega
    refine Ev.step (fun k => by rw [spec_l4Seconds.l1]) ?_
    refine ev_neg (by omega) (ev_is ?_)
    rw [hR]
  | succ e ih =>
    intro i hi
    have hih := ih (i + 1) (by omega)
    have hc : S + cum (12 * J + i) + dim (1970 + (J : Int)) (1 + (i : Int)) = S + cum (12 * J + (i + 1)) := by
      have : cum (12 * J + (i + 1)) = cum (12 * J + i) + dm (12 * J + i) := rfl
      rw [this, dm_add J i (by omega)]
      omega
    have b1 := cum_hi (12 * J + (i + 1))
    have b2 := cum_nonneg (12 * J + (i + 1))
    obtain ⟨w, w2⟩ : wrap64 (1 + (i : Int) + 1) = 1 + ((i + 1 : Nat) : Int) ∧ wrap64 (S + cum (12 * J + i) + dim (1970 + (J : Int)) (1 + (i : Int))) = S + cum (12 * J + (i + 1)) :=
      ⟨by rw [w64 (by omega) (by omega)]; omega, by rw [hc, w64 (by omega) (by omega)]⟩
    refine Ev.step (fun k => by rw [spec_l4Seconds.l1]) ?_
    refine ev_pos (by omega) ?_
    refine Ev.bind (spec_days _ _) ?_
    rw [w, hy, w2, ← hy]
    exact hih

theorem sseconds_years {y m d h mi s z S R : Int} (J I : Nat) (hJ : J < 130) (hI : I < 12) (hy : y = 1970 + (J : Int)) (hm : m = 1 + (I : Int)) (hS : 0 ≤ S ∧ S ≤ 1000)
    (hR : R = wrap64 ((wrap64 ((wrap64 ((wrap64 ((wrap64 ((S + cum (12 * J + I)) * 86400)) + (wrap64 (h * 3600)))) + (wrap64 (mi * 60)))) + s)) - (wrap64 (z * 60)))) :
    ∀ e j : Nat, j + e = J → Ev (fun k => spec_l4Seconds.l0 k (S + cum (12 * j)) (1970 + (j : Int)) y m d h mi s z) R := by
  intro e
  induction e with
  | zero =>
    intro j hj
    obtain rfl : j = J := by omega
    refine Ev.step (fun k => by rw [spec_l4Seconds.l0]) ?_
    refine ev_neg (by omega) ?_
    exact sseconds_months j I hI hy hm hS hR I 0 (by omega)
  | succ e ih =>
    intro j hj
    have hih := ih (j + 1) (by omega)
    have hc := cum_12 j (by omega)
    have b1 := cum_hi (12 * (j + 1))
    have b2 := cum_nonneg (12 * j)
    have hl := sleap_is (y := 1970 + (j : Int)) (by omega) (by omega)
    refine Ev.step (fun k => by rw [spec_l4Seconds.l0]) ?_
    refine ev_pos (by omega) ?_
    refine ev_bind0 hl ?_
    by_cases f : (1970 + (j : Int)) % 4 = 0
    · rw [if_pos f] at hc
      obtain ⟨w, w2, w3⟩ : wrap64 (1970 + (j : Int) + 1) = 1970 + ((j + 1 : Nat) : Int) ∧ wrap64 (S + cum (12 * j) + 365) = S + cum (12 * j) + 365 ∧ wrap64 (S + cum (12 * j) + 365 + 1) = S + cum (12 * (j + 1)) :=
        ⟨by rw [w64 (by omega) (by omega)]; omega, w64 (by omega) (by omega), by rw [w64 (by omega) (by omega)]; omega⟩
      refine ev_pos (decide_eq_true f) ?_
      rw [w, w2, w3]
      exact hih
    · rw [if_neg f] at hc
      obtain ⟨w, w2⟩ : wrap64 (1970 + (j : Int) + 1) = 1970 + ((j + 1 : Nat) : Int) ∧ wrap64 (S + cum (12 * j) + 365) = S + cum (12 * (j + 1)) :=
        ⟨by rw [w64 (by omega) (by omega)]; omega, by rw [w64 (by omega) (by omega)]; omega⟩
      refine ev_neg (by simpa using f) ?_
      rw [w, w2]
      exact hih

theorem sseconds_ev {y m d h mi s z : Int} (H : Fields y m d h mi s z) : Ev (fun k => spec_l4Seconds.f k y m d h mi s z) (secs y m d h mi s z) := by
  obtain ⟨y0, y1, m0, m1⟩ := H.ym
  obtain ⟨f1, f2, f3, f4, f5, f6, f7, f8, f9, f10⟩ := H
  have b3 := (dim_bd y m).2
  simp only [spec_l4Seconds.f]
  rw [w64 (by omega) (by omega)]
  obtain ⟨J, hy⟩ : ∃ J : Nat, y = 1970 + (J : Int) := ⟨(y - 1970).toNat, by omega⟩
  obtain ⟨I, hm⟩ : ∃ I : Nat, m = 1 + (I : Int) := ⟨(m - 1).toNat, by omega⟩
  have e : ix y m = 12 * J + I := by unfold ix; omega
  have b1 := cum_hi (12 * J + I)
  have b2 := cum_nonneg (12 * J + I)
  have hs := sseconds_years (y := y) (m := m) (d := d) (h := h) (mi := mi) (s := s) (z := z) (S := d - 1) (R := secs y m d h mi s z) J I (by omega) (by omega) hy hm (by omega) (by
    unfold secs
    rw [e]
    rw [w64 (n := (d - 1 + cum (12 * J + I)) * 86400) (by omega) (by omega), w64 (n := h * 3600) (by omega) (by omega), w64 (n := mi * 60) (by omega) (by omega), w64 (n := z * 60) (by omega) (by omega),
      w64 (n := (d - 1 + cum (12 * J + I)) * 86400 + h * 3600) (by omega) (by omega), w64 (n := (d - 1 + cum (12 * J + I)) * 86400 + h * 3600 + mi * 60) (by omega) (by omega),
      w64 (n := (d - 1 + cum (12 * J + I)) * 86400 + h * 3600 + mi * 60 + s) (by omega) (by omega), w64 (by omega) (by omega)]
    omega) J 0 (by omega)
  have z0 : d - 1 + cum (12 * 0) = d - 1 := by show d - 1 + 0 = d - 1; omega
  rw [z0] at hs
  exact hs

theorem svalid_ev (y m d h mi s z : Int) : Ev (fun k => spec_DateValid.f k y m d h mi s z) (decide (Valid y m d h mi s z)) := by
  simp only [spec_DateValid.f]
  refine Ev.bind (sfields_ev y m d h mi s z) ?_
  by_cases F : Fields y m d h mi s z
  · refine ev_pos (decide_eq_true F) ?_
    refine Ev.bind (sseconds_ev F) ?_
    by_cases c : secs y m d h mi s z ≥ 0
    · refine ev_pos c (ev_is ?_)
      congr 1
      rw [decide_eq_decide]
      exact ⟨fun q => ⟨F, c, q⟩, fun q => q.2.2⟩
    · refine ev_neg c (ev_is ?_)
      rw [decide_eq_false (fun q : Valid y m d h mi s z => c q.2.1)]
  · refine ev_neg (by simpa using F) (ev_is ?_)
    rw [decide_eq_false (fun q : Valid y m d h mi s z => F q.1)]

theorem secsof_pos {y m d h mi s z : Int} (H : Valid y m d h mi s z) : Ev (fun k => impl_SecondsOf.f k y m d h mi s z) (secs y m d h mi s z, true) := by
  simp only [impl_SecondsOf.f]
  refine Ev.bind (valid_ev y m d h mi s z) ?_
  refine ev_pos (decide_eq_true H) ?_
  refine Ev.bind (seconds_ev H.1) ?_
  exact Ev.now _

theorem secsof_neg {y m d h mi s z : Int} (H : ¬ Valid y m d h mi s z) : Ev (fun k => impl_SecondsOf.f k y m d h mi s z) (0, false) := by
  simp only [impl_SecondsOf.f]
  refine Ev.bind (valid_ev y m d h mi s z) ?_
  exact ev_neg (by simpa using H) (Ev.now _)

theorem ssecsof_pos {y m d h mi s z : Int} (H : Valid y m d h mi s z) : Ev (fun k => spec_SecondsOf.f k y m d h mi s z) (secs y m d h mi s z, true) := by
  simp only [spec_SecondsOf.f]
  refine Ev.bind (svalid_ev y m d h mi s z) ?_
  refine ev_pos (decide_eq_true H) ?_
  refine Ev.bind (sseconds_ev H.1) ?_
  exact Ev.now _

theorem ssecsof_neg {y m d h mi s z : Int} (H : ¬ Valid y m d h mi s z) : Ev (fun k => spec_SecondsOf.f k y m d h mi s z) (0, false) := by
  simp only [spec_SecondsOf.f]
  refine Ev.bind (svalid_ev y m d h mi s z) ?_
  exact ev_neg (by simpa using H) (Ev.now _)

theorem valid_of_fields {y m d h mi s z t : Int} (F : Fields y m d h mi s z) (e : secs y m d h mi s z = t) : Valid y m d h mi s z ↔ (0 ≤ t ∧ t < 4102444800) := by
  subst e
  exact ⟨fun q => q.2, fun q => ⟨F, q⟩⟩

/-- What the loop of DateOf comes to, from a month on. -/
theorem impl_dateof_loop (days h mi s z : Int) (hd0 : 0 ≤ days) (hh : 0 ≤ h ∧ h ≤ 23) (hmi : 0 ≤ mi ∧ mi ≤ 59) (hs : 0 ≤ s ∧ s ≤ 59) (hz : -720 ≤ z ∧ z ≤ 840)
    (N : Nat) (hN : N < 1560) (a : cum N ≤ days) (b : days < cum (N + 1)) (ht : days < 47482)
    (hv : 0 ≤ days * 86400 + h * 3600 + mi * 60 + s - z * 60 ∧ days * 86400 + h * 3600 + mi * 60 + s - z * 60 < 4102444800) :
    ∀ e n : Nat, n + e = N → Ev (fun k => impl_DateOf.l0 k (days - cum n) (yr n) (mo n) 0 h mi s z) (yr N, mo N, days - cum N + 1, h, mi, s, z, true) := by
  intro e
  induction e with
  | zero =>
    intro n hn
    obtain rfl : n = N := by omega
    have hc : cum (n + 1) = cum n + dm n := rfl
    have hy := yr_hi hN
    have hdm : dim (yr n) (mo n) = dm n := rfl
    refine Ev.step (fun k => by rw [impl_DateOf.l0]) ?_
    refine ev_pos hy ?_
    refine Ev.bind (impl_days _ _) ?_
    have : decide (days - cum n ≥ dim (yr n) (mo n)) = false := decide_eq_false (by omega)
    simp only [this]
    refine Ev.step (fun k => by rw [impl_DateOf.j2]) ?_
    refine ev_neg (by simp) ?_
    have w : wrap64 (days - cum n + 1) = days - cum n + 1 := by
      have := cum_nonneg n
      exact w64 (by omega) (by omega)
    rw [w]
    refine Ev.bind (valid_ev _ _ _ _ _ _ _) ?_
    have F : Fields (yr n) (mo n) (days - cum n + 1) h mi s z := ⟨by omega, by omega, hh.1, hh.2, hmi.1, hmi.2, hs.1, hs.2, hz.1, hz.2⟩
    have hsec : secs (yr n) (mo n) (days - cum n + 1) h mi s z = days * 86400 + h * 3600 + mi * 60 + s - z * 60 := by
      unfold secs
      rw [ix_yr]
      omega
    refine ev_pos (decide_eq_true ((valid_of_fields F hsec).2 hv)) (Ev.now _)
  | succ e ih =>
    intro n hn
    have hc : cum (n + 1) = cum n + dm n := rfl
    have hle := cum_le (a := n + 1) (b := N) (by omega)
    have hy := yr_hi (n := n) (by omega)
    have hdm : dim (yr n) (mo n) = dm n := rfl
    have hb := dm_bd n
    have h0 := cum_nonneg n
    refine Ev.step (fun k => by rw [impl_DateOf.l0]) ?_
    refine ev_pos hy ?_
    refine Ev.bind (impl_days _ _) ?_
    have : decide (days - cum n ≥ dim (yr n) (mo n)) = true := decide_eq_true (by omega)
    simp only [this]
    refine Ev.step (fun k => by rw [impl_DateOf.j2]) ?_
    refine ev_pos rfl ?_
    refine Ev.bind (impl_days _ _) ?_
    have hm := mo_bd n
    have hyl := yr_lo n
    have hih := ih (n + 1) (by omega)
    obtain ⟨w, w2, w3⟩ : wrap64 (days - cum n - dim (yr n) (mo n)) = days - cum (n + 1) ∧ wrap64 (mo n + 1) = mo n + 1 ∧ wrap64 (yr n + 1) = yr n + 1 :=
      ⟨by rw [w64 (by omega) (by omega)]; omega, w64 (by omega) (by omega), w64 (by omega) (by omega)⟩
    rw [w, w2, w3]
    by_cases hm12 : mo n + 1 > 12
    · refine ev_pos hm12 ?_
      obtain ⟨e1, e2⟩ := ym_jan (n := n) hm12
      rw [e1, e2] at hih
      exact hih
    · refine ev_neg hm12 ?_
      obtain ⟨e1, e2⟩ := ym_next (n := n) hm12
      rw [e1, e2] at hih
      exact hih
/-- Days behind the last year: no date. -/
theorem impl_dateof_over (days h mi s z : Int) (hd0 : 47482 ≤ days) (hd1 : days ≤ 1000000) :
    ∀ e n : Nat, n + e = 1560 → Ev (fun k => impl_DateOf.l0 k (days - cum n) (yr n) (mo n) 0 h mi s z) (0, 0, 0, 0, 0, 0, 0, false) := by
  intro e
  induction e with
  | zero =>
    intro n hn
    obtain rfl : n = 1560 := by omega
    refine Ev.step (fun k => by rw [impl_DateOf.l0]) ?_
    refine ev_neg (by unfold yr; omega) ?_
    refine Ev.step (fun k => by rw [impl_DateOf.j2]) ?_
    refine ev_neg (by simp) ?_
    refine Ev.bind (valid_ev _ _ _ _ _ _ _) ?_
    have : ¬ Valid (yr 1560) (mo 1560) (wrap64 (days - cum 1560 + 1)) h mi s z := by
      intro q
      have := q.1.ym.2.1
      unfold yr at this
      omega
    exact ev_neg (by simpa using this) (Ev.now _)
  | succ e ih =>
    intro n hn
    have hc : cum (n + 1) = cum n + dm n := rfl
    have hle := cum_hi (n + 1)
    have hy := yr_hi (n := n) (by omega)
    have hdm : dim (yr n) (mo n) = dm n := rfl
    have hb := dm_bd n
    have h0 := cum_nonneg n
    refine Ev.step (fun k => by rw [impl_DateOf.l0]) ?_
    refine ev_pos hy ?_
    refine Ev.bind (impl_days _ _) ?_
    have : decide (days - cum n ≥ dim (yr n) (mo n)) = true := decide_eq_true (by omega)
    simp only [this]
    refine Ev.step (fun k => by rw [impl_DateOf.j2]) ?_
    refine ev_pos rfl ?_
    refine Ev.bind (impl_days _ _) ?_
    have hm := mo_bd n
    have hyl := yr_lo n
    have hih := ih (n + 1) (by omega)
    obtain ⟨w, w2, w3⟩ : wrap64 (days - cum n - dim (yr n) (mo n)) = days - cum (n + 1) ∧ wrap64 (mo n + 1) = mo n + 1 ∧ wrap64 (yr n + 1) = yr n + 1 :=
      ⟨by rw [w64 (by omega) (by omega)]; omega, w64 (by omega) (by omega), w64 (by omega) (by omega)⟩
    rw [w, w2, w3]
    by_cases hm12 : mo n + 1 > 12
    · refine ev_pos hm12 ?_
      obtain ⟨e1, e2⟩ := ym_jan (n := n) hm12
      rw [e1, e2] at hih
      exact hih
    · refine ev_neg hm12 ?_
      obtain ⟨e1, e2⟩ := ym_next (n := n) hm12
      rw [e1, e2] at hih
      exact hih

theorem impl_dateof (s z : Int) : Ev (fun k => impl_DateOf.f k s z) (dateOf s z) := by
  simp only [impl_DateOf.f, between_is, zone_is, Option.bind_some]
  have hT : Ev (fun k => impl_DateOf.j0 k s z true) (0, 0, 0, 0, 0, 0, 0, false) := by
    refine Ev.step (fun k => by rw [impl_DateOf.j0]) ?_
    exact ev_pos rfl (Ev.now _)
  by_cases c1 : 0 ≤ s ∧ s ≤ 4102444799
  · refine ev_pos (decide_eq_true c1) ?_
    by_cases c2 : -720 ≤ z ∧ z ≤ 840
    · rw [decide_eq_true c2]
      refine Ev.step (fun k => by rw [impl_DateOf.j0]) ?_
      refine ev_neg (by simp) ?_
      have w : wrap64 (s + wrap64 (z * 60)) = s + z * 60 := by rw [w64 (n := z * 60) (by omega) (by omega), w64 (by omega) (by omega)]
      rw [w]
      by_cases c3 : s + z * 60 < 0
      · refine ev_pos c3 ?_
        rw [dateOf_neg (fun q => by have := q.2.2.2.2.1; omega)]
        exact Ev.now _
      refine ev_neg c3 ?_
      obtain ⟨t, ht⟩ : ∃ t, t = s + z * 60 := ⟨_, rfl⟩
      rw [← ht]
      have t0 : 0 ≤ t := by omega
      have d1 : Int.tdiv t 86400 = t / 86400 := Int.tdiv_eq_ediv_of_nonneg t0
      have d2 : Int.tmod t 86400 = t % 86400 := Int.tmod_eq_emod_of_nonneg t0
      have d3 : Int.tdiv (t % 86400) 3600 = t % 86400 / 3600 := Int.tdiv_eq_ediv_of_nonneg (by omega)
      have d4 : Int.tdiv (t % 86400) 60 = t % 86400 / 60 := Int.tdiv_eq_ediv_of_nonneg (by omega)
      have d5 : Int.tmod (t % 86400 / 60) 60 = t % 86400 / 60 % 60 := Int.tmod_eq_emod_of_nonneg (by omega)
      have d6 : Int.tmod t 60 = t % 86400 % 60 := by rw [Int.tmod_eq_emod_of_nonneg t0]; omega
      have w1 : wrap64 (t / 86400) = t / 86400 := w64 (by omega) (by omega)
      have w2 : wrap64 (t % 86400 / 3600) = t % 86400 / 3600 := w64 (by omega) (by omega)
      have w3 : wrap64 (t % 86400 / 60) = t % 86400 / 60 := w64 (by omega) (by omega)
      simp only [d1, d2, d3, d4, w1, w2, w3, d5, d6]
      have z0 : t / 86400 - cum 0 = t / 86400 := by show t / 86400 - 0 = _; omega
      by_cases c4 : t < 4102444800
      · obtain ⟨a, b⟩ := mon_at (t := t / 86400) (by omega) (by omega)
        have hl := impl_dateof_loop (t / 86400) (t % 86400 / 3600) (t % 86400 / 60 % 60) (t % 86400 % 60) z (by omega) (by omega) (by omega) (by omega) c2 (mon (t / 86400)) (month_lt a b) a b (by omega) (by omega) (mon (t / 86400)) 0 (by omega)
        rw [z0] at hl
        have hd : dateOf s z = local8 t z := by
          unfold dateOf
          rw [if_pos ⟨by omega, by omega, c2.1, c2.2, by omega, by omega⟩, ht]
        rw [hd]
        exact hl
      · have hl := impl_dateof_over (t / 86400) (t % 86400 / 3600) (t % 86400 / 60 % 60) (t % 86400 % 60) z (by omega) (by omega) 1560 0 (by omega)
        rw [z0] at hl
        rw [dateOf_neg (fun q => by have := q.2.2.2.2.2; omega)]
        exact hl
    · rw [decide_eq_false c2, dateOf_neg (fun q => c2 ⟨q.2.2.1, q.2.2.2.1⟩)]
      exact hT
  · refine ev_neg (by simpa using c1) ?_
    rw [dateOf_neg (fun q => c1 ⟨q.1, by have := q.2.1; omega⟩)]
    exact hT

theorem spec_dateof_loop (days h mi s z : Int) (hd0 : 0 ≤ days) (N : Nat) (hN : N < 1560) (a : cum N ≤ days) (b : days < cum (N + 1)) (ht : days < 47482) :
    ∀ e n : Nat, n + e = N → Ev (fun k => spec_DateOf.l0 k (days - cum n) (yr n) (mo n) 0 h mi s z) (yr N, mo N, days - cum N + 1, h, mi, s, z, true) := by
  intro e
  induction e with
  | zero =>
    intro n hn
    obtain rfl : n = N := by omega
    have hc : cum (n + 1) = cum n + dm n := rfl
    have hdm : dim (yr n) (mo n) = dm n := rfl
    refine Ev.step (fun k => by rw [spec_DateOf.l0]) ?_
    refine Ev.bind (spec_days _ _) ?_
    refine ev_neg (by omega) ?_
    have w : wrap64 (days - cum n + 1) = days - cum n + 1 := by
      have := cum_nonneg n
      exact w64 (by omega) (by omega)
    rw [w]
    exact Ev.now _
  | succ e ih =>
    intro n hn
    have hc : cum (n + 1) = cum n + dm n := rfl
    have hle := cum_le (a := n + 1) (b := N) (by omega)
    have hdm : dim (yr n) (mo n) = dm n := rfl
    have hb := dm_bd n
    have h0 := cum_nonneg n
    refine Ev.step (fun k => by rw [spec_DateOf.l0]) ?_
    refine Ev.bind (spec_days _ _) ?_
    refine ev_pos (by omega) ?_
    refine Ev.bind (spec_days _ _) ?_
    have hm := mo_bd n
    have hyl := yr_lo n
    have hyh := yr_hi (n := n) (by omega)
    have hih := ih (n + 1) (by omega)
    obtain ⟨w, w2, w3⟩ : wrap64 (days - cum n - dim (yr n) (mo n)) = days - cum (n + 1) ∧ wrap64 (mo n + 1) = mo n + 1 ∧ wrap64 (yr n + 1) = yr n + 1 :=
      ⟨by rw [w64 (by omega) (by omega)]; omega, w64 (by omega) (by omega), w64 (by omega) (by omega)⟩
    rw [w, w2, w3]
    by_cases hm12 : mo n + 1 = 13
    · refine ev_pos hm12 ?_
      obtain ⟨e1, e2⟩ := ym_jan' (n := n) hm12
      rw [e1, e2] at hih
      exact hih
    · refine ev_neg hm12 ?_
      obtain ⟨e1, e2⟩ := ym_next' (n := n) hm12
      rw [e1, e2] at hih
      exact hih

theorem spec_dateof (s z : Int) : Ev (fun k => spec_DateOf.f k s z) (dateOf s z) := by
  simp only [spec_DateOf.f, szone_is, Option.bind_some]
  have hT : Ev (fun k => spec_DateOf.j0 k s z true) (0, 0, 0, 0, 0, 0, 0, false) := by
    refine Ev.step (fun k => by rw [spec_DateOf.j0]) ?_
    exact ev_pos rfl (Ev.now _)
  by_cases c0 : s < 0
  · rw [dateOf_neg (fun q => by have := q.1; omega)]
    exact ev_pos c0 hT
  refine ev_neg c0 ?_
  by_cases c1 : s ≥ 4102444800
  · rw [dateOf_neg (fun q => by have := q.2.1; omega)]
    exact ev_pos c1 hT
  refine ev_neg c1 ?_
  by_cases c2 : -720 ≤ z ∧ z ≤ 840
  · rw [decide_eq_true c2]
    refine Ev.step (fun k => by rw [spec_DateOf.j0]) ?_
    refine ev_neg (by simp) ?_
    have w : wrap64 (s + wrap64 (z * 60)) = s + z * 60 := by rw [w64 (n := z * 60) (by omega) (by omega), w64 (by omega) (by omega)]
    rw [w]
    obtain ⟨t, ht⟩ : ∃ t, t = s + z * 60 := ⟨_, rfl⟩
    rw [← ht]
    have hT1 : Ev (fun k => spec_DateOf.j1 k z t true) (0, 0, 0, 0, 0, 0, 0, false) := by
      refine Ev.step (fun k => by rw [spec_DateOf.j1]) ?_
      exact ev_pos rfl (Ev.now _)
    by_cases c3 : t < 0
    · rw [dateOf_neg (fun q => by have := q.2.2.2.2.1; omega)]
      exact ev_pos c3 hT1
    refine ev_neg c3 ?_
    by_cases c4 : t < 4102444800
    · rw [decide_eq_false (by omega : ¬ t ≥ 4102444800)]
      refine Ev.step (fun k => by rw [spec_DateOf.j1]) ?_
      refine ev_neg (by simp) ?_
      have t0 : 0 ≤ t := by omega
      have d1 : Int.tdiv t 86400 = t / 86400 := Int.tdiv_eq_ediv_of_nonneg t0
      have d2 : Int.tmod t 86400 = t % 86400 := Int.tmod_eq_emod_of_nonneg t0
      have d3 : Int.tdiv (t % 86400) 3600 = t % 86400 / 3600 := Int.tdiv_eq_ediv_of_nonneg (by omega)
      have d4 : Int.tdiv (t % 86400) 60 = t % 86400 / 60 := Int.tdiv_eq_ediv_of_nonneg (by omega)
      have d5 : Int.tmod (t % 86400 / 60) 60 = t % 86400 / 60 % 60 := Int.tmod_eq_emod_of_nonneg (by omega)
      have d7 : Int.tmod t 60 = t % 86400 % 60 := by rw [Int.tmod_eq_emod_of_nonneg t0]; omega
      have w1 : wrap64 (t / 86400) = t / 86400 := w64 (by omega) (by omega)
      have w2 : wrap64 (t % 86400 / 3600) = t % 86400 / 3600 := w64 (by omega) (by omega)
      have w3 : wrap64 (t % 86400 / 60) = t % 86400 / 60 := w64 (by omega) (by omega)
      simp only [d1, d2, d3, d4, w1, w2, w3, d5, d7]
      have z0 : t / 86400 - cum 0 = t / 86400 := by show t / 86400 - 0 = _; omega
      obtain ⟨a, b⟩ := mon_at (t := t / 86400) (by omega) (by omega)
      have hl := spec_dateof_loop (t / 86400) (t % 86400 / 3600) (t % 86400 / 60 % 60) (t % 86400 % 60) z (by omega) (mon (t / 86400)) (month_lt a b) a b (by omega) (mon (t / 86400)) 0 (by omega)
      rw [z0] at hl
      have hd : dateOf s z = local8 t z := by
        unfold dateOf
        rw [if_pos ⟨by omega, by omega, c2.1, c2.2, by omega, by omega⟩, ht]
      rw [hd]
      exact hl
    · rw [decide_eq_true (by omega : t ≥ 4102444800), dateOf_neg (fun q => by have := q.2.2.2.2.2; omega)]
      exact hT1
  · rw [decide_eq_false c2, dateOf_neg (fun q => c2 ⟨q.2.2.1, q.2.2.2.1⟩)]
    exact hT

theorem l4draw_ex (b : List Int) (p : Int) (hb : Bytes b) (hl : b.length ≤ 2000) (hp : 0 ≤ p) (hp1 : p ≤ 100) :
    ∃ y m d h mi s z q : Int, 0 ≤ q ∧ q ≤ 200 ∧ Ev (fun k => spec_l4Draw.f k b p) (y, m, d, h, mi, s, z, q) := by
  obtain ⟨r1, a1, a2, e1⟩ := num_ev b p [1767596889, 951782400, 86400, 1000000000, 4102358400, 1709164800, 1709251199] hb hl hp (by omega) (by simp)
  obtain ⟨r2, b1, b2, e2⟩ := pick_ev b (p + 1) 100000 hb hl (by omega) (by omega) (by omega)
  obtain ⟨r3, c1, c2, e3⟩ := num_ev b (p + 1 + 1) [0, 60, (-480), 330, 0, 840, (-720)] hb hl (by omega) (by omega) (by simp)
  obtain ⟨y, m, d, h, mi, s, z, o, hx⟩ : ∃ y m d h mi s z o, dateOf (wrap64 (rd [1767596889, 951782400, 86400, 1000000000, 4102358400, 1709164800, 1709251199] r1 + r2)) (rd [0, 60, (-480), 330, 0, 840, (-720)] r3) = (y, m, d, h, mi, s, z, o) := ⟨_, _, _, _, _, _, _, _, rfl⟩
  have e4 := spec_dateof (wrap64 (rd [1767596889, 951782400, 86400, 1000000000, 4102358400, 1709164800, 1709251199] r1 + r2)) (rd [0, 60, (-480), 330, 0, 840, (-720)] r3)
  rw [hx] at e4
  refine ⟨y, m, d, h, mi, s, z, p + 1 + 1 + 1, by omega, by omega, ?_⟩
  simp only [spec_l4Draw.f]
  refine Ev.bind e1 ?_
  refine Ev.bind e2 ?_
  refine Ev.bind e3 ?_
  refine Ev.bind e4 ?_
  exact Ev.now _

theorem l4wrong_ex (b : List Int) (p y m d h mi s z : Int) (hb : Bytes b) (hl : b.length ≤ 2000) (hp : 0 ≤ p) (hp1 : p ≤ 1000) :
    ∃ y' m' d' h' mi' s' z' q : Int, 0 ≤ q ∧ q ≤ p + 2 ∧ Ev (fun k => spec_l4Wrong.f k b p y m d h mi s z) (y', m', d', h', mi', s', z', q) := by
  obtain ⟨r, r0, r1, e⟩ := pick_ev b p 24 hb hl hp (by omega) (by omega)
  by_cases c0 : r = 0
  · obtain ⟨x, _, _, e2⟩ := num_ev b (p + 1) [0, 31, 32, 29, 30] hb hl (by omega) (by omega) (by simp)
    refine ⟨y, m, rd [0, 31, 32, 29, 30] x, h, mi, s, z, p + 1 + 1, by omega, by omega, ?_⟩
    simp only [spec_l4Wrong.f]
    refine Ev.bind e (ev_pos c0 ?_)
    exact Ev.bind e2 (Ev.now _)
  by_cases c1 : r = 1
  · obtain ⟨x, _, _, e2⟩ := num_ev b (p + 1) [0, 13, 2] hb hl (by omega) (by omega) (by simp)
    refine ⟨y, rd [0, 13, 2] x, d, h, mi, s, z, p + 1 + 1, by omega, by omega, ?_⟩
    simp only [spec_l4Wrong.f]
    refine Ev.bind e (ev_neg c0 (ev_pos c1 ?_))
    exact Ev.bind e2 (Ev.now _)
  by_cases c2 : r = 2
  · obtain ⟨x, _, _, e2⟩ := num_ev b (p + 1) [1969, 2100, 1970, 2099] hb hl (by omega) (by omega) (by simp)
    refine ⟨rd [1969, 2100, 1970, 2099] x, m, d, h, mi, s, z, p + 1 + 1, by omega, by omega, ?_⟩
    simp only [spec_l4Wrong.f]
    refine Ev.bind e (ev_neg c0 (ev_neg c1 (ev_pos c2 ?_)))
    exact Ev.bind e2 (Ev.now _)
  by_cases c3 : r = 3
  · obtain ⟨x, _, _, e2⟩ := num_ev b (p + 1) [24, (-1), 0, 23] hb hl (by omega) (by omega) (by simp)
    refine ⟨y, m, d, rd [24, (-1), 0, 23] x, mi, s, z, p + 1 + 1, by omega, by omega, ?_⟩
    simp only [spec_l4Wrong.f]
    refine Ev.bind e (ev_neg c0 (ev_neg c1 (ev_neg c2 (ev_pos c3 ?_))))
    exact Ev.bind e2 (Ev.now _)
  by_cases c4 : r = 4
  · obtain ⟨x, _, _, e2⟩ := num_ev b (p + 1) [(-721), 841, 840] hb hl (by omega) (by omega) (by simp)
    refine ⟨y, m, d, h, mi, s, rd [(-721), 841, 840] x, p + 1 + 1, by omega, by omega, ?_⟩
    simp only [spec_l4Wrong.f]
    refine Ev.bind e (ev_neg c0 (ev_neg c1 (ev_neg c2 (ev_neg c3 (ev_pos c4 ?_)))))
    exact Ev.bind e2 (Ev.now _)
  by_cases c5 : r = 5
  · obtain ⟨x, _, _, e2⟩ := num_ev b (p + 1) [60, (-1)] hb hl (by omega) (by omega) (by simp)
    refine ⟨y, m, d, h, mi, rd [60, (-1)] x, z, p + 1 + 1, by omega, by omega, ?_⟩
    simp only [spec_l4Wrong.f]
    refine Ev.bind e (ev_neg c0 (ev_neg c1 (ev_neg c2 (ev_neg c3 (ev_neg c4 (ev_pos c5 ?_))))))
    exact Ev.bind e2 (Ev.now _)
  · refine ⟨y, m, d, h, mi, s, z, p + 1, by omega, by omega, ?_⟩
    simp only [spec_l4Wrong.f]
    exact Ev.bind e (ev_neg c0 (ev_neg c1 (ev_neg c2 (ev_neg c3 (ev_neg c4 (ev_neg c5 (Ev.now _)))))))

theorem drawvalid_ex (l : List Int) (h : Bytes l) : ∃ y m d hh mi s z : Int, Ev (fun k => spec_DrawDateValid.f k l) (y, m, d, hh, mi, s, z) := by
  obtain ⟨b, hb, h1, h2⟩ := open_ex l h
  obtain ⟨y, m, d, hh, mi, s, z, q, q0, q1, e1⟩ := l4draw_ex b 0 h1 h2 (by omega) (by omega)
  obtain ⟨y', m', d', hh', mi', s', z', q', q0', q1', e2⟩ := l4wrong_ex b q y m d hh mi s z h1 h2 q0 (by omega)
  obtain ⟨y2, m2, d2, hh2, mi2, s2, z2, q2, q02, q12, e3⟩ := l4wrong_ex b q' y' m' d' hh' mi' s' z' h1 h2 q0' (by omega)
  refine ⟨y2, m2, d2, hh2, mi2, s2, z2, ?_⟩
  simp only [spec_DrawDateValid.f, hb, Option.bind_some]
  refine Ev.bind e1 ?_
  refine Ev.bind e2 ?_
  refine Ev.bind e3 ?_
  exact Ev.now _

theorem drawsecs_ex (l : List Int) (h : Bytes l) : ∃ y m d hh mi s z : Int, Ev (fun k => spec_DrawSecondsOf.f k l) (y, m, d, hh, mi, s, z) := by
  obtain ⟨y, m, d, hh, mi, s, z, e⟩ := drawvalid_ex l h
  refine ⟨y, m, d, hh, mi, s, z, ?_⟩
  simp only [spec_DrawSecondsOf.f]
  refine Ev.bind e ?_
  exact Ev.now _

theorem next_second {y m d h mi s z : Int} : secs y m d h mi (s + 1) z = secs y m d h mi s z + 1 := by
  unfold secs
  omega

theorem FnSecondsOf : laws_FnSecondsOf.Pure := by
  intro l0 _ _ hw
  refine Ev.rounds ?_
  simp only [laws_FnSecondsOf.f]
  by_cases hl : (l0.length : Int) > 1048576
  · exact ev_pos hl (Ev.now _)
  refine ev_neg hl ?_
  obtain ⟨y, m, d, h, mi, s, z, hd⟩ := drawsecs_ex l0 (bytes_wf hw)
  refine Ev.bind hd ?_
  by_cases H : Valid y m d h mi s z
  · refine Ev.bind (secsof_pos H) ?_
    refine Ev.bind (ssecsof_pos H) ?_
    refine ev_pos rfl (ev_neg (by simp) ?_)
    refine Ev.step (fun k => by rw [laws_FnSecondsOf.j0]) ?_
    refine ev_neg (by simp) ?_
    have hdo := impl_dateof (secs y m d h mi s z) z
    rw [dateOf_secs H] at hdo
    refine Ev.bind hdo ?_
    have b1 := H.1.2.2.2.2.2.2.1
    have b2 := H.1.2.2.2.2.2.2.2.1
    have b3 := H.2.1
    have b4 := H.2.2
    have w : wrap64 (s + 1) = s + 1 := w64 (by omega) (by omega)
    have w2 : wrap64 (secs y m d h mi s z + 1) = secs y m d h mi s z + 1 := w64 (by omega) (by omega)
    rw [w, w2]
    clear w w2
    by_cases H' : Valid y m d h mi (s + 1) z
    · refine Ev.bind (secsof_pos H') ?_
      refine ev_pos rfl (ev_pos (by simp) (ev_pos rfl (ev_is ?_)))
      rw [next_second, beq_self_eq_true]
    · refine Ev.bind (secsof_neg H') ?_
      exact ev_pos rfl (ev_pos (by simp) (ev_neg (by simp) (Ev.now _)))
  · refine Ev.bind (secsof_neg H) ?_
    refine Ev.bind (ssecsof_neg H) ?_
    refine ev_pos rfl (ev_neg (by simp) ?_)
    refine Ev.step (fun k => by rw [laws_FnSecondsOf.j0]) ?_
    exact ev_pos rfl (ev_pos rfl (ev_pos rfl (ev_is (by simp))))

end Go.Proofs.Ythmdblcgiljhpaa.PLFnSecondsOf
namespace Go.Proofs.Ythmdblcgiljhpaa.Pure
open Go.Proofs.Ythmdblcgiljhpaa.PFnSecondsOf
theorem FnSecondsOf : laws_FnSecondsOf.Pure := PLFnSecondsOf.FnSecondsOf
end Go.Proofs.Ythmdblcgiljhpaa.Pure
