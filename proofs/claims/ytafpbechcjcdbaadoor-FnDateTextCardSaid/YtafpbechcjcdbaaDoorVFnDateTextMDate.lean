/- Plain mathematics of days, months and years from 1970 to 2099; no program in sight. No conditions. -/
import Derived.RowKit
namespace Go.Proofs.YtafpbechcjcdbaaDoor.M
open Go.RowKit
def dim (y m : Int) : Int :=
  if y < 1970 ∨ y > 2099 ∨ m < 1 ∨ m > 12 then 0
  else if m = 2 then (if y % 4 = 0 then 29 else 28)
  else if m = 4 ∨ m = 6 ∨ m = 9 ∨ m = 11 then 30 else 31
theorem dim_bd (y m : Int) : 0 ≤ dim y m ∧ dim y m ≤ 31 := by
  unfold dim
  split
  · omega
  · split
    · split <;> omega
    · split <;> omega
theorem dim_in {y m : Int} (h : 0 < dim y m) : 1970 ≤ y ∧ y ≤ 2099 ∧ 1 ≤ m ∧ m ≤ 12 := by
  unfold dim at h
  split at h
  · omega
  · omega
theorem dim_out {y m : Int} (h : y < 1970 ∨ y > 2099 ∨ m < 1 ∨ m > 12) : dim y m = 0 := by
  unfold dim
  rw [if_pos h]
def yr (n : Nat) : Int := 1970 + ((n / 12 : Nat) : Int)
def mo (n : Nat) : Int := 1 + ((n % 12 : Nat) : Int)
def dm (n : Nat) : Int := dim (yr n) (mo n)
def cum : Nat → Int
  | 0 => 0
  | n + 1 => cum n + dm n
theorem mo_bd (n : Nat) : 1 ≤ mo n ∧ mo n ≤ 12 := by unfold mo; omega
theorem yr_lo (n : Nat) : 1970 ≤ yr n := by unfold yr; omega
theorem yr_hi {n : Nat} (h : n < 1560) : yr n ≤ 2099 := by unfold yr; omega
theorem dm_bd (n : Nat) : 0 ≤ dm n ∧ dm n ≤ 31 := dim_bd _ _
theorem dm_out {n : Nat} (h : 1560 ≤ n) : dm n = 0 := dim_out (by unfold yr; omega)
theorem cum_le {a b : Nat} (h : a ≤ b) : cum a ≤ cum b := by
  induction b with
  | zero =>
    have : a = 0 := by omega
    subst this
    exact Int.le_refl _
  | succ b ih =>
    by_cases e : a = b + 1
    · subst e
      exact Int.le_refl _
    · have := ih (by omega)
      have := dm_bd b
      show cum a ≤ cum b + dm b
      omega
theorem cum_nonneg (n : Nat) : 0 ≤ cum n := cum_le (Nat.zero_le n)
theorem yr_add (j i : Nat) (hi : i < 12) : yr (12 * j + i) = 1970 + j := by unfold yr; omega
theorem mo_add (j i : Nat) (hi : i < 12) : mo (12 * j + i) = 1 + i := by unfold mo; omega
theorem dm_add (j i : Nat) (hi : i < 12) : dm (12 * j + i) = dim (1970 + j) (1 + i) := by unfold dm; rw [yr_add j i hi, mo_add j i hi]
theorem ym_jan {n : Nat} (h : mo n + 1 > 12) : yr (n + 1) = yr n + 1 ∧ mo (n + 1) = 1 := by unfold mo at h; unfold yr mo; omega
theorem ym_next {n : Nat} (h : ¬ mo n + 1 > 12) : yr (n + 1) = yr n ∧ mo (n + 1) = mo n + 1 := by unfold mo at h; unfold yr mo; omega
theorem ym_jan' {n : Nat} (h : mo n + 1 = 13) : yr (n + 1) = yr n + 1 ∧ mo (n + 1) = 1 := ym_jan (by omega)
theorem ym_next' {n : Nat} (h : ¬ mo n + 1 = 13) : yr (n + 1) = yr n ∧ mo (n + 1) = mo n + 1 := ym_next (by have := mo_bd n; omega)
theorem cum_12 (j : Nat) (h : j < 130) : cum (12 * (j + 1)) = cum (12 * j) + (if (1970 + (j : Int)) % 4 = 0 then 366 else 365) := by
  have e : 12 * (j + 1) = 12 * j + 11 + 1 := by omega
  rw [e]
  show cum (12 * j) + dm (12 * j + 0) + dm (12 * j + 1) + dm (12 * j + 2) + dm (12 * j + 3) + dm (12 * j + 4) + dm (12 * j + 5) + dm (12 * j + 6) + dm (12 * j + 7) + dm (12 * j + 8) + dm (12 * j + 9) + dm (12 * j + 10) + dm (12 * j + 11) = _
  rw [dm_add j 0 (by omega), dm_add j 1 (by omega), dm_add j 2 (by omega), dm_add j 3 (by omega), dm_add j 4 (by omega), dm_add j 5 (by omega), dm_add j 6 (by omega), dm_add j 7 (by omega), dm_add j 8 (by omega), dm_add j 9 (by omega), dm_add j 10 (by omega), dm_add j 11 (by omega)]
  have hy : ¬ (1970 + (j : Int) < 1970 ∨ 1970 + (j : Int) > 2099) := by omega
  have hy1 : ¬ (1970 + (j : Int) < 1970) := by omega
  have hy2 : ¬ (1970 + (j : Int) > 2099) := by omega
  simp only [dim, hy1, hy2, false_or]
  simp
  split <;> omega
theorem cum_year (j : Nat) (h : j ≤ 130) : cum (12 * j) = 365 * j + ((j + 1) / 4 : Nat) := by
  induction j with
  | zero => rfl
  | succ j ih =>
    rw [cum_12 j (by omega), ih (by omega)]
    split <;> omega
theorem cum_top : cum 1560 = 47482 := cum_year 130 (by omega)
theorem cum_hi (n : Nat) : cum n ≤ 47482 := by
  by_cases h : n ≤ 1560
  · have := cum_le h
    rw [cum_top] at this
    exact this
  · obtain ⟨d, rfl⟩ : ∃ d, n = 1560 + d := ⟨n - 1560, by omega⟩
    clear h
    induction d with
    | zero =>
      show cum 1560 ≤ _
      rw [cum_top]
      exact Int.le_refl _
    | succ d ih =>
      have := dm_out (n := 1560 + d) (by omega)
      show cum (1560 + d) + dm (1560 + d) ≤ _
      omega
def ix (y m : Int) : Nat := (12 * (y - 1970) + (m - 1)).toNat
def secs (y m d h mi s z : Int) : Int := (cum (ix y m) + d - 1) * 86400 + h * 3600 + mi * 60 + s - z * 60
def Fields (y m d h mi s z : Int) : Prop := 1 ≤ d ∧ d ≤ dim y m ∧ 0 ≤ h ∧ h ≤ 23 ∧ 0 ≤ mi ∧ mi ≤ 59 ∧ 0 ≤ s ∧ s ≤ 59 ∧ -720 ≤ z ∧ z ≤ 840
instance (y m d h mi s z : Int) : Decidable (Fields y m d h mi s z) := by unfold Fields; exact inferInstance
def Valid (y m d h mi s z : Int) : Prop := Fields y m d h mi s z ∧ 0 ≤ secs y m d h mi s z ∧ secs y m d h mi s z < 4102444800
instance (y m d h mi s z : Int) : Decidable (Valid y m d h mi s z) := by unfold Valid; exact inferInstance
theorem Fields.ym {y m d h mi s z : Int} (H : Fields y m d h mi s z) : 1970 ≤ y ∧ y ≤ 2099 ∧ 1 ≤ m ∧ m ≤ 12 := by
  obtain ⟨h1, h2, _⟩ := H
  exact dim_in (by omega)
theorem month_of (t : Int) (N : Nat) (h0 : 0 ≤ t) (h1 : t < cum N) : ∃ n, n < N ∧ cum n ≤ t ∧ t < cum (n + 1) := by
  induction N with
  | zero => exact absurd h1 (by show ¬ t < 0; omega)
  | succ N ih =>
    by_cases e : t < cum N
    · obtain ⟨n, a, b, c⟩ := ih e
      exact ⟨n, by omega, b, c⟩
    · exact ⟨N, by omega, by omega, h1⟩
theorem month_one {t : Int} {a b : Nat} (h1 : cum a ≤ t) (h2 : t < cum (a + 1)) (h3 : cum b ≤ t) (h4 : t < cum (b + 1)) : a = b := by
  by_cases e : a < b
  · have := cum_le (a := a + 1) (b := b) (by omega)
    omega
  · by_cases e2 : b < a
    · have := cum_le (a := b + 1) (b := a) (by omega)
      omega
    · omega
theorem month_lt {t : Int} {n : Nat} (h1 : cum n ≤ t) (h2 : t < cum (n + 1)) : n < 1560 := by
  by_cases e : n < 1560
  · exact e
  · have := dm_out (n := n) (by omega)
    have h3 : cum (n + 1) = cum n + dm n := rfl
    omega
open Classical in
noncomputable def mon (t : Int) : Nat := if h : ∃ n, cum n ≤ t ∧ t < cum (n + 1) then h.choose else 0
theorem mon_eq {t : Int} {n : Nat} (h1 : cum n ≤ t) (h2 : t < cum (n + 1)) : mon t = n := by
  unfold mon
  have h : ∃ n, cum n ≤ t ∧ t < cum (n + 1) := ⟨n, h1, h2⟩
  rw [dif_pos h]
  exact month_one h.choose_spec.1 h.choose_spec.2 h1 h2
theorem mon_at {t : Int} (h0 : 0 ≤ t) (h1 : t < 47482) : cum (mon t) ≤ t ∧ t < cum (mon t + 1) := by
  obtain ⟨n, _, a, b⟩ := month_of t 1560 h0 (by rw [cum_top]; exact h1)
  rw [mon_eq a b]
  exact ⟨a, b⟩
def DateOK (s z : Int) : Prop := 0 ≤ s ∧ s < 4102444800 ∧ -720 ≤ z ∧ z ≤ 840 ∧ 0 ≤ s + z * 60 ∧ s + z * 60 < 4102444800
instance (s z : Int) : Decidable (DateOK s z) := by unfold DateOK; exact inferInstance
abbrev D8 := Int × Int × Int × Int × Int × Int × Int × Bool
noncomputable def local8 (t z : Int) : D8 :=
  (yr (mon (t / 86400)), mo (mon (t / 86400)), t / 86400 - cum (mon (t / 86400)) + 1, t % 86400 / 3600, t % 86400 / 60 % 60, t % 86400 % 60, z, true)
noncomputable def dateOf (s z : Int) : D8 := if DateOK s z then local8 (s + z * 60) z else (0, 0, 0, 0, 0, 0, 0, false)
theorem dateOf_neg {s z : Int} (H : ¬ DateOK s z) : dateOf s z = (0, 0, 0, 0, 0, 0, 0, false) := by
  unfold dateOf
  rw [if_neg H]
end Go.Proofs.YtafpbechcjcdbaaDoor.M
