/- The law FnExactDaysOf holds of the printed functions: both programs' days of a month agree for all arguments. No conditions. -/
import Derived.Test.YtaafnpellbhjhaaPFnExactDaysOfx1
import Derived.Test.YtaafnpellbhjhaaMBase
import Derived.Test.YtaafnpellbhjhaaMDate
namespace Go.Proofs.Ytaafnpellbhjhaa.PLFnExactDaysOf
open Go.RowKit Go.Proofs.Ytaafnpellbhjhaa.PFnExactDaysOf Go.Proofs.YtaafnpellbhjhaaW.PrintWords Go.Proofs.YtaafnpellbhjhaaW.PrintLast Go.Proofs.YtaafnpellbhjhaaW.PrintMore Go.Proofs.Ytaafnpellbhjhaa.M

theorem leap_is (y : Int) (h : 0 ≤ y) : spec_l4Leap.f y = some (decide (y % 4 = 0) && (decide (y % 100 ≠ 0) || decide (y % 400 = 0))) := by
  unfold spec_l4Leap.f
  rw [Int.tmod_eq_emod_of_nonneg h, Int.tmod_eq_emod_of_nonneg h, Int.tmod_eq_emod_of_nonneg h]
  by_cases a : y % 4 = 0
  · by_cases b : y % 100 = 0
    · rw [if_pos a, if_pos b]
      simp [a, b]
      rfl
    · rw [if_pos a, if_neg b]
      simp [a, b]
  · rw [if_neg a]
    simp [a]

theorem spec_days (y m : Int) : Ev (fun k => spec_DaysOf.f k y m) (dim y m) := by
  simp only [spec_DaysOf.f]
  have hT : Ev (fun k => spec_DaysOf.j0 k y m true) 0 := by
    refine Ev.step (fun k => by rw [spec_DaysOf.j0]) ?_
    exact ev_pos rfl (Ev.now _)
  by_cases a : y < 1970
  · rw [dim_out (by omega)]
    exact ev_pos a hT
  refine ev_neg a ?_
  by_cases b : y > 2099
  · rw [dim_out (by omega)]
    exact ev_pos b hT
  refine ev_neg b ?_
  by_cases c : m < 1
  · rw [dim_out (by omega)]
    exact ev_pos c hT
  refine ev_neg c ?_
  by_cases d : m > 12
  · rw [dim_out (by omega)]
    simp only [d, decide_true]
    exact hT
  simp only [d, decide_false]
  refine Ev.step (fun k => by rw [spec_DaysOf.j0]) ?_
  refine ev_neg (by simp) ?_
  refine ev_bind0 rfl ?_
  have w : wrap64 (m - 1) = m - 1 := w64 (by omega) (by omega)
  by_cases e : m = 2
  · refine ev_pos e ?_
    refine ev_bind0 (leap_is y (by omega)) ?_
    subst e
    by_cases f : y % 4 = 0
    · have hl : (decide (y % 4 = 0) && (decide (y % 100 ≠ 0) || decide (y % 400 = 0))) = true := by
        have : y % 100 ≠ 0 ∨ y % 400 = 0 := by omega
        simp [f, this]
      refine ev_pos hl ?_
      have : dim y 2 = 29 := by unfold dim; rw [if_neg (by omega), if_pos rfl, if_pos f]
      rw [this]
      exact Ev.now _
    · have hl : ¬ (decide (y % 4 = 0) && (decide (y % 100 ≠ 0) || decide (y % 400 = 0))) = true := by simp [f]
      refine ev_neg hl ?_
      have : dim y 2 = 28 := by unfold dim; rw [if_neg (by omega), if_pos rfl, if_neg f]
      rw [this]
      refine ev_pos (by rw [w]; omega) (ev_pos (by rw [w]; decide) (ev_is (by rw [w]; rfl)))
  · refine ev_neg e ?_
    refine ev_pos (by rw [w]; omega) (ev_pos (by rw [w]; show m - 1 < 12; omega) (ev_is ?_))
    rw [w]
    have hd : dim y m = if m = 4 ∨ m = 6 ∨ m = 9 ∨ m = 11 then 30 else 31 := by unfold dim; rw [if_neg (by omega), if_neg e]
    rw [hd]
    have hm : m = 1 ∨ m = 3 ∨ m = 4 ∨ m = 5 ∨ m = 6 ∨ m = 7 ∨ m = 8 ∨ m = 9 ∨ m = 10 ∨ m = 11 ∨ m = 12 := by omega
    rcases hm with rfl | rfl | rfl | rfl | rfl | rfl | rfl | rfl | rfl | rfl | rfl <;> rfl

theorem days_j2 (y m : Int) (h0 : 1970 ≤ y) (h1 : y ≤ 2099) (c : Bool) : Ev (fun k => impl_DaysOf.j2 k y m c) (if c = true then 30 else if m = 2 then (if y % 4 = 0 then 29 else 28) else 0) := by
  refine Ev.step (fun k => by rw [impl_DaysOf.j2]) ?_
  rw [Int.tmod_eq_emod_of_nonneg (by omega), Int.tmod_eq_emod_of_nonneg (by omega), Int.tmod_eq_emod_of_nonneg (by omega)]
  cases c with
  | true => exact ev_pos rfl (Ev.now _)
  | false =>
    refine ev_neg (by simp) ?_
    by_cases e : m = 2
    · refine ev_pos e ?_
      by_cases f : y % 4 = 0
      · refine ev_eq (r := 29) (by simp [e, f]) ?_
        refine ev_pos f ?_
        by_cases g : y % 100 = 0
        · exact ev_pos g (ev_pos (by omega) (Ev.now _))
        · exact ev_neg g (Ev.now _)
      · refine ev_eq (r := 28) (by simp [e, f]) ?_
        exact ev_neg f (ev_neg (by omega) (Ev.now _))
    · refine ev_eq (r := 0) (by simp [e]) ?_
      exact ev_neg e (Ev.now _)

theorem days_j1 (y m : Int) (h0 : 1970 ≤ y) (h1 : y ≤ 2099) (c : Bool) : Ev (fun k => impl_DaysOf.j1 k y m c) (if c = true then 31 else if m = 4 ∨ m = 6 ∨ m = 9 ∨ m = 11 then 30 else if m = 2 then (if y % 4 = 0 then 29 else 28) else 0) := by
  refine Ev.step (fun k => by rw [impl_DaysOf.j1]) ?_
  cases c with
  | true => exact ev_pos rfl (Ev.now _)
  | false =>
    refine ev_neg (by simp) ?_
    rw [if_neg Bool.false_ne_true]
    by_cases e : m = 4 ∨ m = 6 ∨ m = 9 ∨ m = 11
    · rw [if_pos e]
      rcases e with e | e | e | e <;> subst e <;> simp <;> exact days_j2 y _ h0 h1 true
    · rw [if_neg e]
      refine ev_neg (by omega) (ev_neg (by omega) (ev_neg (by omega) ?_))
      have : (m == 11) = false := by simp; omega
      rw [this]
      exact days_j2 y m h0 h1 false

theorem impl_days (y m : Int) : Ev (fun k => impl_DaysOf.f k y m) (dim y m) := by
  simp only [impl_DaysOf.f]
  have hT : Ev (fun k => impl_DaysOf.j0 k y m true) 0 := by
    refine Ev.step (fun k => by rw [impl_DaysOf.j0]) ?_
    exact ev_pos rfl (Ev.now _)
  by_cases a : y < 1970
  · rw [dim_out (by omega)]
    exact ev_pos a hT
  refine ev_neg a ?_
  by_cases b : y > 2099
  · rw [dim_out (by omega)]
    simp only [b, decide_true]
    exact hT
  simp only [b, decide_false]
  refine Ev.step (fun k => by rw [impl_DaysOf.j0]) ?_
  refine ev_neg (by simp) ?_
  by_cases e : m = 1 ∨ m = 3 ∨ m = 5 ∨ m = 7 ∨ m = 8 ∨ m = 10 ∨ m = 12
  · have : dim y m = 31 := by unfold dim; rw [if_neg (by omega), if_neg (by omega), if_neg (by omega)]
    rw [this]
    rcases e with e | e | e | e | e | e | e <;> subst e <;> simp <;> exact days_j1 y _ (by omega) (by omega) true
  · have : dim y m = if m = 4 ∨ m = 6 ∨ m = 9 ∨ m = 11 then 30 else if m = 2 then (if y % 4 = 0 then 29 else 28) else 0 := by
      unfold dim
      by_cases g : m < 1 ∨ m > 12
      · rw [if_pos (by omega), if_neg (by omega), if_neg (by omega)]
      · rw [if_neg (by omega)]
        by_cases g2 : m = 2
        · have n4 : ¬ (m = 4 ∨ m = 6 ∨ m = 9 ∨ m = 11) := by omega
          rw [if_pos g2, if_neg n4, if_pos g2]
        · rw [if_neg g2]
          have : m = 4 ∨ m = 6 ∨ m = 9 ∨ m = 11 := by omega
          rw [if_pos this, if_pos this]
    rw [this]
    refine ev_neg (by omega) (ev_neg (by omega) (ev_neg (by omega) (ev_neg (by omega) (ev_neg (by omega) (ev_neg (by omega) ?_)))))
    have : (m == 12) = false := by simp; omega
    rw [this]
    exact days_j1 y m (by omega) (by omega) false

theorem FnExactDaysOf : laws_FnExactDaysOf.Pure := by
  intro a0 a1 _ _
  refine Ev.rounds ?_
  simp only [laws_FnExactDaysOf.f]
  refine Ev.bind (spec_days a0 a1) ?_
  refine Ev.bind (impl_days a0 a1) ?_
  exact ev_pos rfl (Ev.now _)

end Go.Proofs.Ytaafnpellbhjhaa.PLFnExactDaysOf
namespace Go.Proofs.Ytaafnpellbhjhaa.Pure
open Go.Proofs.Ytaafnpellbhjhaa.PFnExactDaysOf
theorem FnExactDaysOf : laws_FnExactDaysOf.Pure := PLFnExactDaysOf.FnExactDaysOf
end Go.Proofs.Ytaafnpellbhjhaa.Pure
