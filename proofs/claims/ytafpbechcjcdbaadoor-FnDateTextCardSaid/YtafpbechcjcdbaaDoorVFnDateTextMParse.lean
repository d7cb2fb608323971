/- Plain mathematics of dates that are read out of a text; no program in sight. No conditions. -/
import Derived.Test.YtafpbechcjcdbaaDoorVFnDateTextMFmt
import Derived.Test.YtafpbechcjcdbaaDoorVFnDateTextMDate
import Derived.Test.YtafpbechcjcdbaaDoorVFnDateTextMParts
namespace Go.Proofs.YtafpbechcjcdbaaDoor.M
open Go.RowKit Go.Proofs.YtafpbechcjcdbaaDoorW.PrintWords
def textOK (s : List UInt8) : Prop := s.length ≤ 200 ∧ ∀ c ∈ s, 32 ≤ c.toNat ∧ c.toNat ≤ 126
instance (s : List UInt8) : Decidable (textOK s) := by unfold textOK; exact inferInstance
def trimL (s : List UInt8) : List UInt8 := s.dropWhile (· == 32)
def trimR (s : List UInt8) : List UInt8 := (s.reverse.dropWhile (· == 32)).reverse
def trim (s : List UInt8) : List UInt8 := trimR (trimL s)
theorem dropWhile_len (p : UInt8 → Bool) (s : List UInt8) : (s.dropWhile p).length ≤ s.length := by
  induction s with
  | nil => simp
  | cons a r ih =>
    rw [List.dropWhile_cons]
    split
    · simp
      omega
    · exact Nat.le_refl _
theorem trimL_len (s : List UInt8) : (trimL s).length ≤ s.length := dropWhile_len _ s
theorem trimR_len (s : List UInt8) : (trimR s).length ≤ s.length := by
  unfold trimR
  have := dropWhile_len (· == 32) s.reverse
  simpa using this
theorem trim_len (s : List UInt8) : (trim s).length ≤ s.length := Nat.le_trans (trimR_len _) (trimL_len s)
theorem trimR_snoc (s : List UInt8) (c : UInt8) : trimR (s ++ [c]) = if c = 32 then trimR s else s ++ [c] := by
  unfold trimR
  rw [List.reverse_append, List.reverse_singleton, List.singleton_append, List.dropWhile_cons]
  by_cases h : c = 32
  · rw [if_pos h, if_pos (by simp [h])]
  · rw [if_neg h, if_neg (by simp [h])]
    simp
theorem mem_dropWhile {c : UInt8} (hc : c ≠ 32) {s : List UInt8} (h : c ∈ s) : c ∈ s.dropWhile (· == 32) := by
  induction s with
  | nil => exact h
  | cons a r ih =>
    rw [List.dropWhile_cons]
    split
    · rename_i ha
      rcases List.mem_cons.1 h with rfl | h
      · exact absurd (eq_of_beq ha) hc
      · exact ih h
    · exact h
theorem mem_trim {c : UInt8} (hc : c ≠ 32) {s : List UInt8} (h : c ∈ s) : c ∈ trim s := by
  unfold trim trimR trimL
  rw [List.mem_reverse]
  exact mem_dropWhile hc (List.mem_reverse.2 (mem_dropWhile hc h))
def lowB (b : UInt8) : UInt8 := if 65 ≤ b.toNat ∧ b.toNat ≤ 90 then b + 32 else b
def lowL (s : List UInt8) : List UInt8 := s.map lowB
theorem lowL_app (a b : List UInt8) : lowL (a ++ b) = lowL a ++ lowL b := List.map_append
theorem lowB_same {b : UInt8} (h : ¬ (65 ≤ b.toNat ∧ b.toNat ≤ 90)) : lowB b = b := by unfold lowB; rw [if_neg h]
theorem lowL_same {s : List UInt8} (h : ∀ b ∈ s, ¬ (65 ≤ b.toNat ∧ b.toNat ≤ 90)) : lowL s = s := by
  induction s with
  | nil => rfl
  | cons a r ih =>
    show lowB a :: lowL r = _
    rw [lowB_same (h a (by simp)), ih (fun b hb => h b (by simp [hb]))]
theorem lowL_len (s : List UInt8) : (lowL s).length = s.length := List.length_map ..
def isDg (c : UInt8) : Prop := 48 ≤ c.toNat ∧ c.toNat ≤ 57
instance (c : UInt8) : Decidable (isDg c) := by unfold isDg; exact inferInstance
def numF : Nat → List UInt8 → Nat
  | n, [] => n
  | n, c :: r => numF (10 * n + (c.toNat - 48)) r
def digR (l : List UInt8) (least most : Nat) : Option Nat := if least ≤ l.length ∧ l.length ≤ most ∧ ∀ c ∈ l, isDg c then some (numF 0 l) else none
theorem digR_quote {l : List UInt8} (a b : Nat) (h : 34 ∈ l) : digR l a b = none := by
  unfold digR
  rw [if_neg]
  rintro ⟨_, _, h3⟩
  have := h3 34 h
  revert this
  decide
theorem isDg_dg {n : Nat} (h : n < 10) : isDg (dg n) := by
  unfold isDg
  rw [dg_nat h]
  omega
theorem numF_bd (n : Nat) (l : List UInt8) (h : ∀ c ∈ l, isDg c) : numF n l < (n + 1) * 10 ^ l.length := by
  induction l generalizing n with
  | nil => show n < (n + 1) * 1; omega
  | cons a r ih =>
    have h1 := h a (by simp)
    have h2 := ih (10 * n + (a.toNat - 48)) (fun c hc => h c (by simp [hc]))
    show numF (10 * n + (a.toNat - 48)) r < (n + 1) * 10 ^ (r.length + 1)
    have h3 : 10 * n + (a.toNat - 48) + 1 ≤ (n + 1) * 10 := by
      unfold isDg at h1
      omega
    have h4 := Nat.mul_le_mul_right (10 ^ r.length) h3
    rw [Nat.pow_succ, Nat.mul_comm (10 ^ r.length) 10, ← Nat.mul_assoc]
    omega
theorem digR_dg {n : Nat} (h : n < 10) : digR [dg n] 1 2 = some n := by
  have h1 := isDg_dg h
  have h2 : numF 0 [dg n] = n := by
    show 10 * 0 + ((dg n).toNat - 48) = n
    rw [dg_nat h]
    omega
  unfold digR
  rw [if_pos ⟨by simp, by simp, by simpa using h1⟩, h2]
theorem digR_two {n : Nat} (h : n < 100) (a : Nat) (ha : a ≤ 2) : digR (two n) a 2 = some n := by
  have h1 := isDg_dg (n := n / 10) (by omega)
  have h2 := isDg_dg (n := n % 10) (by omega)
  have h3 : numF 0 (two n) = n := by
    show 10 * (10 * 0 + ((dg (n / 10)).toNat - 48)) + ((dg (n % 10)).toNat - 48) = n
    rw [dg_nat (by omega), dg_nat (by omega)]
    omega
  have h4 : ∀ c ∈ two n, isDg c := by
    intro c hc
    unfold two at hc
    simp only [List.mem_cons, List.not_mem_nil, or_false] at hc
    rcases hc with rfl | rfl
    · exact h1
    · exact h2
  unfold digR
  rw [if_pos ⟨ha, Nat.le_refl 2, h4⟩, h3]
theorem digR_day {n : Nat} (h : n < 100) : digR (dayD n) 1 2 = some n := by
  unfold dayD
  split
  · rename_i h1
    exact digR_dg h1
  · exact digR_two h 1 (by omega)
theorem four_isDg {n : Nat} (h : n < 10000) : ∀ c ∈ four n, isDg c := by
  intro c hc
  unfold four at hc
  simp only [List.mem_cons, List.not_mem_nil, or_false] at hc
  rcases hc with rfl | rfl | rfl | rfl
  · exact isDg_dg (by omega)
  · exact isDg_dg (by omega)
  · exact isDg_dg (by omega)
  · exact isDg_dg (by omega)
theorem two_isDg {n : Nat} (h : n < 100) : ∀ c ∈ two n, isDg c := by
  intro c hc
  unfold two at hc
  simp only [List.mem_cons, List.not_mem_nil, or_false] at hc
  rcases hc with rfl | rfl
  · exact isDg_dg (by omega)
  · exact isDg_dg (by omega)
theorem day_isDg {n : Nat} (h : n < 100) : ∀ c ∈ dayD n, isDg c := by
  unfold dayD
  split
  · rename_i h1
    intro c hc
    simp only [List.mem_cons, List.not_mem_nil, or_false] at hc
    rw [hc]
    exact isDg_dg h1
  · exact two_isDg h
theorem digR_four {n : Nat} (h : n < 10000) : digR (four n) 4 4 = some n := by
  have h3 : numF 0 (four n) = n := by
    show 10 * (10 * (10 * (10 * 0 + ((dg (n / 1000)).toNat - 48)) + ((dg (n / 100 % 10)).toNat - 48)) + ((dg (n / 10 % 10)).toNat - 48)) + ((dg (n % 10)).toNat - 48) = n
    rw [dg_nat (by omega), dg_nat (by omega), dg_nat (by omega), dg_nat (by omega)]
    omega
  unfold digR
  rw [if_pos ⟨Nat.le_refl 4, Nat.le_refl 4, four_isDg h⟩, h3]
theorem isDg_ne {c : UInt8} (h : isDg c) : c ≠ 32 ∧ c ≠ 58 ∧ c ≠ 44 ∧ c ≠ 34 ∧ ¬ (65 ≤ c.toNat ∧ c.toNat ≤ 90) := by
  unfold isDg at h
  refine ⟨?_, ?_, ?_, ?_, by omega⟩
  · rintro rfl
    revert h
    decide
  · rintro rfl
    revert h
    decide
  · rintro rfl
    revert h
    decide
  · rintro rfl
    revert h
    decide
def monM : Nat → List UInt8 → Nat
  | 0, _ => 0
  | n + 1, x => if x = lowL (monB n) then n + 1 else monM n x
def monN (x : List UInt8) : Nat := monM 12 (lowL x)
theorem monM_eq {n : Nat} {x : List UInt8} (h : 0 < monM n x) : ∃ i, i < n ∧ x = lowL (monB i) := by
  induction n with
  | zero => exact absurd h (by show ¬ 0 < 0; omega)
  | succ n ih =>
    unfold monM at h
    split at h
    · rename_i e
      exact ⟨n, by omega, e⟩
    · obtain ⟨i, h1, h2⟩ := ih h
      exact ⟨i, by omega, h2⟩
theorem monM_no {n : Nat} {x : List UInt8} (h : ∀ i, i < n → x ≠ lowL (monB i)) : monM n x = 0 := by
  induction n with
  | zero => rfl
  | succ n ih =>
    unfold monM
    rw [if_neg (h n (by omega)), ih (fun i hi => h i (by omega))]
theorem mon_apart {i j : Nat} (hi : i < 12) (hj : j < 12) (h : lowL (monB i) = lowL (monB j)) : i = j := by
  have : ∀ i : Fin 12, ∀ j : Fin 12, lowL (monB i.val) = lowL (monB j.val) → i = j := by decide
  exact congrArg Fin.val (this ⟨i, hi⟩ ⟨j, hj⟩ h)
theorem monM_at {n i : Nat} (hn : n ≤ 12) (hi : i < n) : monM n (lowL (monB i)) = i + 1 := by
  induction n with
  | zero => omega
  | succ n ih =>
    unfold monM
    by_cases e : i = n
    · subst e
      rw [if_pos rfl]
    · rw [if_neg (fun q => e (mon_apart (by omega) (by omega) q)), ih (by omega) (by omega)]
theorem low_low (x : List UInt8) : lowL (lowL x) = lowL x := by
  unfold lowL
  rw [List.map_map]
  apply List.map_congr_left
  intro b _
  show lowB (lowB b) = lowB b
  unfold lowB
  by_cases h : 65 ≤ b.toNat ∧ b.toNat ≤ 90
  · rw [if_pos h, if_neg]
    rw [UInt8.toNat_add]
    have : (32 : UInt8).toNat = 32 := rfl
    omega
  · rw [if_neg h, if_neg h]
theorem monN_mon {i : Nat} (hi : i < 12) : monN (monB i) = i + 1 := monM_at (Nat.le_refl _) hi
theorem monN_low {i : Nat} (hi : i < 12) : monN (lowL (monB i)) = i + 1 := by
  unfold monN
  rw [low_low]
  exact monM_at (Nat.le_refl _) hi
theorem monB_letters {i : Nat} (hi : i < 12) : ∀ c ∈ monB i, (65 ≤ c.toNat ∧ c.toNat ≤ 90) ∨ (97 ≤ c.toNat ∧ c.toNat ≤ 122) := by
  have : ∀ i : Fin 12, ∀ c ∈ monB i.val, (65 ≤ c.toNat ∧ c.toNat ≤ 90) ∨ (97 ≤ c.toNat ∧ c.toNat ≤ 122) := by decide
  exact this ⟨i, hi⟩
theorem low_letters {l : List UInt8} (h : ∀ c ∈ l, (65 ≤ c.toNat ∧ c.toNat ≤ 90) ∨ (97 ≤ c.toNat ∧ c.toNat ≤ 122)) : ∀ c ∈ lowL l, 97 ≤ c.toNat ∧ c.toNat ≤ 122 := by
  intro c hc
  obtain ⟨b, hb, rfl⟩ := List.mem_map.1 hc
  unfold lowB
  have := h b hb
  split
  · rw [UInt8.toNat_add]
    have : (32 : UInt8).toNat = 32 := rfl
    omega
  · omega
theorem quote_low {x : List UInt8} (h : 34 ∈ x) : 34 ∈ lowL x := List.mem_map.2 ⟨34, h, rfl⟩
theorem monN_quote {x : List UInt8} (h : 34 ∈ x) : monN x = 0 := by
  refine monM_no (fun i hi e => ?_)
  have h1 := quote_low h
  rw [e] at h1
  have h2 := low_letters (monB_letters hi) 34 h1
  revert h2
  decide
def timeP (ps : List (List UInt8)) : Option (Nat × Nat × Nat) := match ps with
  | [a, b] => (digR a 2 2).bind fun h => (digR b 2 2).bind fun m => some (h, m, 0)
  | [a, b, c] => (digR a 2 2).bind fun h => (digR b 2 2).bind fun m => (digR c 2 2).bind fun s => some (h, m, s)
  | _ => none
def timeR (x : List UInt8) : Option (Nat × Nat × Nat) := timeP (parts 58 x)
theorem parts_mem {c b : UInt8} {s : List UInt8} (h : b ∈ s) (hb : b ≠ c) : ∃ p ∈ parts c s, b ∈ p := by
  induction s with
  | nil => cases h
  | cons a r ih =>
    unfold parts
    split
    · rename_i ha
      rcases List.mem_cons.1 h with rfl | h
      · exact absurd ha hb
      · obtain ⟨p, hp, h2⟩ := ih h
        exact ⟨p, by simp [hp], h2⟩
    · cases hp : parts c r with
      | nil => exact absurd hp (parts_ne c r)
      | cons u t =>
        rcases List.mem_cons.1 h with rfl | h
        · exact ⟨b :: u, by simp, by simp⟩
        · obtain ⟨p, hp2, h2⟩ := ih h
          rw [hp] at hp2
          rcases List.mem_cons.1 hp2 with rfl | hp2
          · exact ⟨a :: p, by simp, by simp [h2]⟩
          · exact ⟨p, by simp [hp2], h2⟩
theorem timeR_quote {x : List UInt8} (h : 34 ∈ x) : timeR x = none := by
  obtain ⟨p, hp, h2⟩ := parts_mem (c := 58) h (by decide)
  unfold timeR timeP
  split
  · rename_i a b e
    rw [e] at hp
    simp only [List.mem_cons, List.not_mem_nil, or_false] at hp
    rcases hp with rfl | rfl
    · rw [digR_quote _ _ h2]; rfl
    · rw [digR_quote _ _ h2]
      cases digR a 2 2 <;> rfl
  · rename_i a b c e
    rw [e] at hp
    simp only [List.mem_cons, List.not_mem_nil, or_false] at hp
    rcases hp with rfl | rfl | rfl
    · rw [digR_quote _ _ h2]; rfl
    · rw [digR_quote _ _ h2]
      cases digR a 2 2 <;> rfl
    · rw [digR_quote _ _ h2]
      cases digR a 2 2 <;> cases digR b 2 2 <;> rfl
  · rfl
def timeL (h m s : Nat) : List UInt8 := two h ++ 58 :: (two m ++ 58 :: two s)
theorem timeR_time {h m s : Nat} (h1 : h < 100) (h2 : m < 100) (h3 : s < 100) : timeR (timeL h m s) = some (h, m, s) := by
  unfold timeR timeL
  rw [parts_cut _ (fun c hc => (isDg_ne (two_isDg h1 c hc)).2.1), parts_cut _ (fun c hc => (isDg_ne (two_isDg h2 c hc)).2.1), parts_none (fun c hc => (isDg_ne (two_isDg h3 c hc)).2.1)]
  unfold timeP
  simp only [digR_two h1 2 (Nat.le_refl _), digR_two h2 2 (Nat.le_refl _), digR_two h3 2 (Nat.le_refl _), Option.bind_some]
def zoneV (neg : Bool) (h m : Nat) : Int := if neg = true then -((60 * h + m : Nat) : Int) else ((60 * h + m : Nat) : Int)
def zoneR (x : List UInt8) : Option Int :=
  if x = [71, 77, 84] ∨ x = [85, 84] then some 0
  else if x.length = 5 ∧ (x.getD 0 0 = 43 ∨ x.getD 0 0 = 45) then
    (digR ((x.drop 1).take 2) 2 2).bind fun h => (digR (x.drop 3) 2 2).bind fun m => if m ≤ 59 then some (zoneV (x.getD 0 0 == 45) h m) else none
  else none
theorem zoneR_quote {x : List UInt8} (h : 34 ∈ x) : zoneR x = none := by
  unfold zoneR
  rw [if_neg (by rintro (rfl | rfl) <;> revert h <;> decide)]
  split
  · rename_i h5
    obtain ⟨a, b, c, d, e, rfl⟩ : ∃ a b c d e, x = [a, b, c, d, e] := by
      match x, h5.1 with
      | [a, b, c, d, e], _ => exact ⟨a, b, c, d, e, rfl⟩
    have h0 : a = 43 ∨ a = 45 := h5.2
    have hq : 34 ∈ [b, c] ∨ 34 ∈ [d, e] := by
      simp only [List.mem_cons, List.not_mem_nil, or_false] at h ⊢
      rcases h with rfl | h | h | h | h
      · rcases h0 with h0 | h0
        · exact absurd h0 (by decide)
        · exact absurd h0 (by decide)
      · exact Or.inl (Or.inl h)
      · exact Or.inl (Or.inr h)
      · exact Or.inr (Or.inl h)
      · exact Or.inr (Or.inr h)
    show (digR [b, c] 2 2).bind (fun h => (digR [d, e] 2 2).bind fun m => _) = none
    rcases hq with hq | hq
    · rw [digR_quote _ _ hq]
      rfl
    · rw [digR_quote _ _ hq]
      cases digR [b, c] 2 2 <;> rfl
  · rfl
theorem zoneR_zone {z : Int} (h0 : -720 ≤ z) (h1 : z ≤ 840) : zoneR (zoneL z) = some z := by
  have ha : absZ z < 841 := by unfold absZ; omega
  unfold zoneR
  have hs : sgn z = 43 ∨ sgn z = 45 := by
    unfold sgn
    split
    · exact Or.inr rfl
    · exact Or.inl rfl
  rw [if_neg (by
    rintro (q | q)
    · have := congrArg List.length q
      rw [zoneL_len] at this
      revert this
      decide
    · have := congrArg List.length q
      rw [zoneL_len] at this
      revert this
      decide), if_pos ⟨zoneL_len z, hs⟩]
  show (digR (two (absZ z / 60)) 2 2).bind (fun h => (digR (two (absZ z % 60)) 2 2).bind fun m => if m ≤ 59 then some (zoneV (sgn z == 45) h m) else none) = _
  rw [digR_two (by omega) 2 (Nat.le_refl _), digR_two (by omega) 2 (Nat.le_refl _), Option.bind_some, Option.bind_some, if_pos (by omega)]
  unfold zoneV sgn absZ
  by_cases hz : z < 0
  · rw [if_pos hz, if_pos (show (((45 : UInt8) == 45) = true) from rfl)]
    exact congrArg some (by omega)
  · rw [if_neg hz, if_neg (by decide)]
    exact congrArg some (by omega)
end Go.Proofs.YtafpbechcjcdbaaDoor.M
