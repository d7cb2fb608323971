/- Plain mathematics of days, months and years from 1970 to 2099; no program in sight. No conditions. -/
import Derived.RowKit
namespace Go.Proofs.YtafpbechcjcdbaaDoor.M
open Go.RowKit

theorem wrap_id {n : Int} (h0 : -9223372036854775808 ≤ n) (h1 : n ≤ 9223372036854775807) : wrap64 n = n := by
  unfold wrap64
  omega

/-- The days of a month. -/
def dim (y m : Int) : Int :=
  if y < 1970 ∨ y > 2099 ∨ m < 1 ∨ m > 12 then 0
  else if m = 2 then (if y % 4 = 0 then 29 else 28)
  else if m = 4 ∨ m = 6 ∨ m = 9 ∨ m = 11 then 30 else 31

theorem dim_bd (y m : Int) : 0 ≤ dim y m ∧ dim y m ≤ 31 := by
  unfold dim
  split
  · omega
  · split
    · split <;> omega
    · split <;> omega

theorem dim_in {y m : Int} (h : 0 < dim y m) : 1970 ≤ y ∧ y ≤ 2099 ∧ 1 ≤ m ∧ m ≤ 12 := by
  unfold dim at h
  split at h
  · omega
  · omega

theorem dim_lo {y m : Int} (h0 : 1970 ≤ y) (h1 : y ≤ 2099) (h2 : 1 ≤ m) (h3 : m ≤ 12) : 28 ≤ dim y m := by
  unfold dim
  rw [if_neg (by omega)]
  split
  · split <;> omega
  · split <;> omega

theorem dim_out {y m : Int} (h : y < 1970 ∨ y > 2099 ∨ m < 1 ∨ m > 12) : dim y m = 0 := by
  unfold dim
  rw [if_pos h]

theorem dim_pos {y m : Int} (h : dim y m ≠ 0) : 28 ≤ dim y m := by
  have := dim_bd y m
  obtain ⟨a, b, c, d⟩ := dim_in (y := y) (m := m) (by omega)
  exact dim_lo a b c d

def yr (n : Nat) : Int := 1970 + ((n / 12 : Nat) : Int)
def mo (n : Nat) : Int := 1 + ((n % 12 : Nat) : Int)
def dm (n : Nat) : Int := dim (yr n) (mo n)
def cum : Nat → Int
  | 0 => 0
  | n + 1 => cum n + dm n

theorem mo_bd (n : Nat) : 1 ≤ mo n ∧ mo n ≤ 12 := by unfold mo; omega
theorem yr_lo (n : Nat) : 1970 ≤ yr n := by unfold yr; omega
theorem yr_hi {n : Nat} (h : n < 1560) : yr n ≤ 2099 := by unfold yr; omega
theorem dm_bd (n : Nat) : 0 ≤ dm n ∧ dm n ≤ 31 := dim_bd _ _
theorem dm_lo {n : Nat} (h : n < 1560) : 28 ≤ dm n := dim_lo (yr_lo n) (yr_hi h) (mo_bd n).1 (mo_bd n).2
theorem dm_out {n : Nat} (h : 1560 ≤ n) : dm n = 0 := dim_out (by unfold yr; omega)

theorem cum_le {a b : Nat} (h : a ≤ b) : cum a ≤ cum b := by
  induction b with
  | zero =>
    have : a = 0 := by omega
    subst this
    exact Int.le_refl _
  | succ b ih =>
    by_cases e : a = b + 1
    · subst e
      exact Int.le_refl _
    · have := ih (by omega)
      have := dm_bd b
      show cum a ≤ cum b + dm b
      omega

theorem cum_nonneg (n : Nat) : 0 ≤ cum n := cum_le (Nat.zero_le n)

theorem cum_step {a b : Nat} (h : a < b) (hb : b ≤ 1560) : cum a + 28 ≤ cum b := by
  have h1 := cum_le (a := a + 1) (b := b) (by omega)
  have h2 := dm_lo (n := a) (by omega)
  have h3 : cum (a + 1) = cum a + dm a := rfl
  omega

theorem yr_add (j i : Nat) (hi : i < 12) : yr (12 * j + i) = 1970 + j := by unfold yr; omega
theorem mo_add (j i : Nat) (hi : i < 12) : mo (12 * j + i) = 1 + i := by unfold mo; omega
theorem dm_add (j i : Nat) (hi : i < 12) : dm (12 * j + i) = dim (1970 + j) (1 + i) := by unfold dm; rw [yr_add j i hi, mo_add j i hi]

theorem ym_jan {n : Nat} (h : mo n + 1 > 12) : yr (n + 1) = yr n + 1 ∧ mo (n + 1) = 1 := by unfold mo at h; unfold yr mo; omega
theorem ym_next {n : Nat} (h : ¬ mo n + 1 > 12) : yr (n + 1) = yr n ∧ mo (n + 1) = mo n + 1 := by unfold mo at h; unfold yr mo; omega

theorem ym_jan' {n : Nat} (h : mo n + 1 = 13) : yr (n + 1) = yr n + 1 ∧ mo (n + 1) = 1 := ym_jan (by omega)
theorem ym_next' {n : Nat} (h : ¬ mo n + 1 = 13) : yr (n + 1) = yr n ∧ mo (n + 1) = mo n + 1 := ym_next (by have := mo_bd n; omega)

theorem cum_12 (j : Nat) (h : j < 130) : cum (12 * (j + 1)) = cum (12 * j) + (if (1970 + (j : Int)) % 4 = 0 then 366 else 365) := by
  have e : 12 * (j + 1) = 12 * j + 11 + 1 := by omega
  rw [e]
  show cum (12 * j) + dm (12 * j + 0) + dm (12 * j + 1) + dm (12 * j + 2) + dm (12 * j + 3) + dm (12 * j + 4) + dm (12 * j + 5) + dm (12 * j + 6) + dm (12 * j + 7) + dm (12 * j + 8) + dm (12 * j + 9) + dm (12 * j + 10) + dm (12 * j + 11) = _
  rw [dm_add j 0 (by omega), dm_add j 1 (by omega), dm_add j 2 (by omega), dm_add j 3 (by omega), dm_add j 4 (by omega), dm_add j 5 (by omega), dm_add j 6 (by omega), dm_add j 7 (by omega), dm_add j 8 (by omega), dm_add j 9 (by omega), dm_add j 10 (by omega), dm_add j 11 (by omega)]
  have hy : ¬ (1970 + (j : Int) < 1970 ∨ 1970 + (j : Int) > 2099) := by omega
  have hy1 : ¬ (1970 + (j : Int) < 1970) := by omega
  have hy2 : ¬ (1970 + (j : Int) > 2099) := by omega
  simp only [dim, hy1, hy2, false_or]
  simp
  split <;> omega

theorem cum_year (j : Nat) (h : j ≤ 130) : cum (12 * j) = 365 * j + ((j + 1) / 4 : Nat) := by
  induction j with
  | zero => rfl
  | succ j ih =>
    rw [cum_12 j (by omega), ih (by omega)]
    split <;> omega

theorem cum_top : cum 1560 = 47482 := cum_year 130 (by omega)

theorem cum_hi (n : Nat) : cum n ≤ 47482 := by
  by_cases h : n ≤ 1560
  · have := cum_le h
    rw [cum_top] at this
    exact this
  · obtain ⟨d, rfl⟩ : ∃ d, n = 1560 + d := ⟨n - 1560, by omega⟩
    clear h
    induction d with
    | zero =>
      show cum 1560 ≤ _
      rw [cum_top]
      exact Int.le_refl _
    | succ d ih =>
      have := dm_out (n := 1560 + d) (by omega)
      show cum (1560 + d) + dm (1560 + d) ≤ _
      omega

/-- The number of a month. -/
def ix (y m : Int) : Nat := (12 * (y - 1970) + (m - 1)).toNat

theorem ix_lt {y m : Int} (h0 : 1970 ≤ y) (h1 : y ≤ 2099) (h2 : 1 ≤ m) (h3 : m ≤ 12) : ix y m < 1560 := by unfold ix; omega
theorem yr_ix {y m : Int} (h0 : 1970 ≤ y) (h2 : 1 ≤ m) (h3 : m ≤ 12) : yr (ix y m) = y := by unfold yr ix; omega
theorem mo_ix {y m : Int} (h0 : 1970 ≤ y) (h2 : 1 ≤ m) (h3 : m ≤ 12) : mo (ix y m) = m := by unfold mo ix; omega
theorem dm_ix {y m : Int} (h0 : 1970 ≤ y) (h2 : 1 ≤ m) (h3 : m ≤ 12) : dm (ix y m) = dim y m := by unfold dm; rw [yr_ix h0 h2 h3, mo_ix h0 h2 h3]
theorem ix_yr (n : Nat) : ix (yr n) (mo n) = n := by unfold ix yr mo; omega
theorem ix_next {y m : Int} (h0 : 1970 ≤ y) (h2 : 1 ≤ m) : ix y (m + 1) = ix y m + 1 := by unfold ix; omega
theorem ix_jan {y : Int} (h0 : 1970 ≤ y) : ix (y + 1) 1 = ix y 12 + 1 := by unfold ix; omega

def secs (y m d h mi s z : Int) : Int := (cum (ix y m) + d - 1) * 86400 + h * 3600 + mi * 60 + s - z * 60

def Fields (y m d h mi s z : Int) : Prop := 1 ≤ d ∧ d ≤ dim y m ∧ 0 ≤ h ∧ h ≤ 23 ∧ 0 ≤ mi ∧ mi ≤ 59 ∧ 0 ≤ s ∧ s ≤ 59 ∧ -720 ≤ z ∧ z ≤ 840
instance (y m d h mi s z : Int) : Decidable (Fields y m d h mi s z) := by unfold Fields; exact inferInstance

def Valid (y m d h mi s z : Int) : Prop := Fields y m d h mi s z ∧ 0 ≤ secs y m d h mi s z ∧ secs y m d h mi s z < 4102444800
instance (y m d h mi s z : Int) : Decidable (Valid y m d h mi s z) := by unfold Valid; exact inferInstance

theorem Fields.ym {y m d h mi s z : Int} (H : Fields y m d h mi s z) : 1970 ≤ y ∧ y ≤ 2099 ∧ 1 ≤ m ∧ m ≤ 12 := by
  obtain ⟨h1, h2, _⟩ := H
  exact dim_in (by omega)

/-- The month in which a day lies. -/
theorem month_of (t : Int) (N : Nat) (h0 : 0 ≤ t) (h1 : t < cum N) : ∃ n, n < N ∧ cum n ≤ t ∧ t < cum (n + 1) := by
  induction N with
  | zero => exact absurd h1 (by show ¬ t < 0; omega)
  | succ N ih =>
    by_cases e : t < cum N
    · obtain ⟨n, a, b, c⟩ := ih e
      exact ⟨n, by omega, b, c⟩
    · exact ⟨N, by omega, by omega, h1⟩

theorem month_one {t : Int} {a b : Nat} (h1 : cum a ≤ t) (h2 : t < cum (a + 1)) (h3 : cum b ≤ t) (h4 : t < cum (b + 1)) : a = b := by
  by_cases e : a < b
  · have := cum_le (a := a + 1) (b := b) (by omega)
    omega
  · by_cases e2 : b < a
    · have := cum_le (a := b + 1) (b := a) (by omega)
      omega
    · omega

theorem month_lt {t : Int} {n : Nat} (h1 : cum n ≤ t) (h2 : t < cum (n + 1)) : n < 1560 := by
  by_cases e : n < 1560
  · exact e
  · have := dm_out (n := n) (by omega)
    have h3 : cum (n + 1) = cum n + dm n := rfl
    omega

open Classical in
noncomputable def mon (t : Int) : Nat := if h : ∃ n, cum n ≤ t ∧ t < cum (n + 1) then h.choose else 0

theorem mon_eq {t : Int} {n : Nat} (h1 : cum n ≤ t) (h2 : t < cum (n + 1)) : mon t = n := by
  unfold mon
  have h : ∃ n, cum n ≤ t ∧ t < cum (n + 1) := ⟨n, h1, h2⟩
  rw [dif_pos h]
  exact month_one h.choose_spec.1 h.choose_spec.2 h1 h2

theorem mon_at {t : Int} (h0 : 0 ≤ t) (h1 : t < 47482) : cum (mon t) ≤ t ∧ t < cum (mon t + 1) := by
  obtain ⟨n, _, a, b⟩ := month_of t 1560 h0 (by rw [cum_top]; exact h1)
  rw [mon_eq a b]
  exact ⟨a, b⟩

def DateOK (s z : Int) : Prop := 0 ≤ s ∧ s < 4102444800 ∧ -720 ≤ z ∧ z ≤ 840 ∧ 0 ≤ s + z * 60 ∧ s + z * 60 < 4102444800
instance (s z : Int) : Decidable (DateOK s z) := by unfold DateOK; exact inferInstance

abbrev D7 := Int × Int × Int × Int × Int × Int × Int
abbrev D8 := Int × Int × Int × Int × Int × Int × Int × Bool

def secs7 (x : D7) : Int := secs x.1 x.2.1 x.2.2.1 x.2.2.2.1 x.2.2.2.2.1 x.2.2.2.2.2.1 x.2.2.2.2.2.2
def Valid7 (x : D7) : Prop := Valid x.1 x.2.1 x.2.2.1 x.2.2.2.1 x.2.2.2.2.1 x.2.2.2.2.2.1 x.2.2.2.2.2.2

/-- The date of a local second t, with a zone. -/
noncomputable def local8 (t z : Int) : D8 :=
  (yr (mon (t / 86400)), mo (mon (t / 86400)), t / 86400 - cum (mon (t / 86400)) + 1, t % 86400 / 3600, t % 86400 / 60 % 60, t % 86400 % 60, z, true)

noncomputable def dateOf (s z : Int) : D8 := if DateOK s z then local8 (s + z * 60) z else (0, 0, 0, 0, 0, 0, 0, false)

theorem local_valid {s z : Int} (H : DateOK s z) {y m d h mi x z' : Int} {b : Bool} (e : local8 (s + z * 60) z = (y, m, d, h, mi, x, z', b)) :
    Valid y m d h mi x z ∧ secs y m d h mi x z = s ∧ z' = z ∧ b = true := by
  obtain ⟨h1, h2, h3, h4, h5, h6⟩ := H
  obtain ⟨a, c⟩ := mon_at (t := (s + z * 60) / 86400) (by omega) (by omega)
  have hn := month_lt a c
  have hc : cum (mon ((s + z * 60) / 86400) + 1) = cum (mon ((s + z * 60) / 86400)) + dm (mon ((s + z * 60) / 86400)) := rfl
  unfold local8 at e
  simp only [Prod.mk.injEq] at e
  obtain ⟨rfl, rfl, rfl, rfl, rfl, rfl, rfl, rfl⟩ := e
  have hs : secs (yr (mon ((s + z * 60) / 86400))) (mo (mon ((s + z * 60) / 86400))) ((s + z * 60) / 86400 - cum (mon ((s + z * 60) / 86400)) + 1)
      ((s + z * 60) % 86400 / 3600) ((s + z * 60) % 86400 / 60 % 60) ((s + z * 60) % 86400 % 60) z = s := by
    unfold secs
    rw [ix_yr]
    omega
  refine ⟨⟨⟨by omega, ?_, by omega, by omega, by omega, by omega, by omega, by omega, h3, h4⟩, by rw [hs]; exact h1, by rw [hs]; exact h2⟩, hs, rfl, rfl⟩
  show _ ≤ dm (mon ((s + z * 60) / 86400))
  omega

theorem local_of_valid {y m d h mi x z : Int} (H : Valid y m d h mi x z) :
    DateOK (secs y m d h mi x z) z ∧ local8 (secs y m d h mi x z + z * 60) z = (y, m, d, h, mi, x, z, true) := by
  obtain ⟨HF, h1, h2⟩ := H
  obtain ⟨y0, y1, m0, m1⟩ := HF.ym
  obtain ⟨f1, f2, f3, f4, f5, f6, f7, f8, f9, f10⟩ := HF
  have hn := ix_lt y0 y1 m0 m1
  have hd := dm_ix y0 m0 m1
  have hc : cum (ix y m + 1) = cum (ix y m) + dm (ix y m) := rfl
  have hp := cum_nonneg (ix y m)
  have ht := cum_hi (ix y m + 1)
  have e : secs y m d h mi x z + z * 60 = (cum (ix y m) + d - 1) * 86400 + h * 3600 + mi * 60 + x := by
    unfold secs
    omega
  have e1 : (secs y m d h mi x z + z * 60) / 86400 = cum (ix y m) + d - 1 := by
    rw [e]
    omega
  have e2 : (secs y m d h mi x z + z * 60) % 86400 = h * 3600 + mi * 60 + x := by
    rw [e]
    omega
  have em : mon (cum (ix y m) + d - 1) = ix y m := mon_eq (by omega) (by omega)
  refine ⟨⟨h1, h2, f9, f10, by omega, by omega⟩, ?_⟩
  unfold local8
  rw [e1, e2, em, yr_ix y0 m0 m1, mo_ix y0 m0 m1]
  simp only [Prod.mk.injEq, and_true, true_and]
  omega

theorem dateOf_pos {s z : Int} (H : DateOK s z) : ∃ y m d h mi x, dateOf s z = (y, m, d, h, mi, x, z, true) ∧ Valid y m d h mi x z ∧ secs y m d h mi x z = s := by
  unfold dateOf
  rw [if_pos H]
  obtain ⟨y, m, d, h, mi, x, z', b, e⟩ : ∃ y m d h mi x z' b, local8 (s + z * 60) z = (y, m, d, h, mi, x, z', b) := ⟨_, _, _, _, _, _, _, _, rfl⟩
  obtain ⟨hv, hs, rfl, rfl⟩ := local_valid H e
  exact ⟨y, m, d, h, mi, x, e, hv, hs⟩

theorem dateOf_neg {s z : Int} (H : ¬ DateOK s z) : dateOf s z = (0, 0, 0, 0, 0, 0, 0, false) := by
  unfold dateOf
  rw [if_neg H]

theorem dateOf_secs {y m d h mi x z : Int} (H : Valid y m d h mi x z) : dateOf (secs y m d h mi x z) z = (y, m, d, h, mi, x, z, true) := by
  obtain ⟨a, b⟩ := local_of_valid H
  unfold dateOf
  rw [if_pos a, b]

theorem dateOf_at {s z y m d h mi x : Int} (H : Valid y m d h mi x z) (e : secs y m d h mi x z = s) : dateOf s z = (y, m, d, h, mi, x, z, true) := by
  rw [← e]
  exact dateOf_secs H

theorem valid_ok {y m d h mi x z : Int} (H : Valid y m d h mi x z) : DateOK (secs y m d h mi x z) z := (local_of_valid H).1

end Go.Proofs.YtafpbechcjcdbaaDoor.M
