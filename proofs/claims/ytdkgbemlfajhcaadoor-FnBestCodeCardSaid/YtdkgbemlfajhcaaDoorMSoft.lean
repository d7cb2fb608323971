/- Plain mathematics of quoted lines, read: soft breaks are nothing, what is written is read back; no program in sight. No conditions. -/
import Derived.Test.YtdkgbemlfajhcaaDoorMDecQ
namespace Go.Proofs.YtdkgbemlfajhcaaDoor.M
open Go.RowKit Go.Proofs.YtdkgbemlfajhcaaDoorW.PrintWords

theorem decL_soft (ls : List (List UInt8)) : decL ([61] :: ls) true = decL ls true := by
  have : unq [61] = some ([], true) := rfl
  rw [decL, this]
  cases h : decL ls true <;> simp [h]
theorem decL_line : ∀ (ls : List (List UInt8)) (g : Bool) (b : List UInt8), decL ls g = some b → decL (ls ++ [[]]) g = some (b ++ [10]) := by
  intro ls
  induction ls with
  | nil =>
    intro g b h
    cases g with
    | true => cases h
    | false =>
      have := Option.some.inj h
      rw [← this]
      rfl
  | cons l ls ih =>
    intro g b h
    rw [decL] at h
    cases hq : unq l with
    | none => rw [hq] at h; cases h
    | some p =>
      obtain ⟨s, g2⟩ := p
      rw [hq] at h
      cases hd : decL ls g2 with
      | none => simp only [hd] at h; cases h
      | some t =>
        simp only [hd] at h
        have h2 := Option.some.inj h
        have h3 := ih g2 t hd
        show decL (l :: (ls ++ [[]])) g = _
        rw [decL, hq]
        simp only [h3, ← h2]
        cases g <;> simp

theorem encQ_cons (b : List UInt8) : ∀ line, ∃ l ls, encQ b line = l :: ls := by
  induction b with
  | nil => intro line; exact ⟨_, _, rfl⟩
  | cons c r ih =>
    intro line
    unfold encQ
    split
    · exact ⟨_, _, rfl⟩
    · split
      · exact ⟨_, _, rfl⟩
      · exact ih _

/-- A beginning of a line that stands for bytes. -/
def Stands (line s : List UInt8) : Prop := ∀ r, unq (line ++ r) = (unq r).map fun p => (s ++ p.1, p.2)
theorem stands_nil : Stands [] [] := by
  intro r
  show unq r = _
  cases unq r <;> rfl
theorem stands_snoc {line s : List UInt8} (h : Stands line s) (c : UInt8) (last : Bool) : Stands (line ++ quoteB c last) (s ++ [c]) := by
  intro r
  rw [List.append_assoc, h, unq_quoteB]
  cases unq r with
  | none => rfl
  | some p => show some _ = some _; simp
theorem stands_end {line s : List UInt8} (h : Stands line s) : unq line = some (s, false) := by
  have := h []
  rw [List.append_nil] at this
  rw [this]
  show some (s ++ [], false) = _
  rw [List.append_nil]
theorem stands_soft {line s : List UInt8} (h : Stands line s) : unq (line ++ [61]) = some (s, true) := by
  rw [h]
  show some (s ++ [], true) = _
  rw [List.append_nil]

theorem decL_encQ (b : List UInt8) : ∀ line s, Stands line s → decL (encQ b line) true = some (s ++ b) := by
  induction b with
  | nil =>
    intro line s h
    rw [encQ, decL, stands_end h]
    simp [decL]
  | cons c r ih =>
    intro line s h
    rw [encQ]
    by_cases c10 : c.toNat = 10
    · rw [if_pos c10, decL, stands_end h]
      obtain ⟨l, ls, e⟩ := encQ_cons r []
      have h1 := ih [] [] stands_nil
      rw [e] at h1 ⊢
      have h2 := decL_hard l ls
      rw [h1] at h2
      have hc : c = 10 := UInt8.toNat_inj.1 (by rw [c10]; rfl)
      simp only [h2, hc]
      simp
    · rw [if_neg c10]
      by_cases c39 : line.length + (quoteB c (lastQ r)).length > 39
      · rw [if_pos c39, decL, stands_soft h]
        have h1 := ih _ _ (stands_snoc stands_nil c (lastQ r))
        rw [List.nil_append] at h1
        simp only [h1]
        simp
      · rw [if_neg c39]
        have h1 := ih _ _ (stands_snoc h c (lastQ r))
        rw [h1]
        simp
theorem decL_quot (b : List UInt8) : decL (encQ b []) true = some b := decL_encQ b [] [] stands_nil

theorem quoteB_print (c : UInt8) (last : Bool) : ∀ d ∈ quoteB c last, 32 ≤ d.toNat ∧ d.toNat ≤ 126 := by
  intro d hd
  unfold quoteB at hd
  split at hd
  · rename_i h
    simp only [List.mem_singleton] at hd
    subst hd
    unfold plainQ at h
    simp at h
    omega
  · have hx : ∀ n, n < 16 → 48 ≤ (hexDig n).toNat ∧ (hexDig n).toNat ≤ 70 := by
      intro n h
      have : n = 0 ∨ n = 1 ∨ n = 2 ∨ n = 3 ∨ n = 4 ∨ n = 5 ∨ n = 6 ∨ n = 7 ∨ n = 8 ∨ n = 9 ∨ n = 10 ∨ n = 11 ∨ n = 12 ∨ n = 13 ∨ n = 14 ∨ n = 15 := by omega
      rcases this with rfl | rfl | rfl | rfl | rfl | rfl | rfl | rfl | rfl | rfl | rfl | rfl | rfl | rfl | rfl | rfl <;> decide
    have h1 := hx (c.toNat / 16) (by have := c.toNat_lt; omega)
    have h2 := hx (c.toNat % 16) (by omega)
    simp only [hex3, List.mem_cons, List.not_mem_nil, or_false] at hd
    rcases hd with rfl | rfl | rfl
    · decide
    · omega
    · omega
theorem encQ_print (b : List UInt8) : ∀ line, (∀ d ∈ line, 32 ≤ d.toNat ∧ d.toNat ≤ 126) → ∀ l ∈ encQ b line, ∀ d ∈ l, 32 ≤ d.toNat ∧ d.toNat ≤ 126 := by
  induction b with
  | nil =>
    intro line h l hl
    simp only [encQ, List.mem_singleton] at hl
    rw [hl]
    exact h
  | cons c r ih =>
    intro line h l hl
    have q := quoteB_print c (lastQ r)
    unfold encQ at hl
    split at hl
    · rcases List.mem_cons.1 hl with rfl | hl
      · exact h
      · exact ih [] (by simp) l hl
    · split at hl
      · rcases List.mem_cons.1 hl with rfl | hl
        · intro d hd
          rcases List.mem_append.1 hd with hd | hd
          · exact h d hd
          · simp only [List.mem_singleton] at hd
            subst hd
            decide
        · exact ih _ q l hl
      · refine ih _ (fun d hd => ?_) l hl
        rcases List.mem_append.1 hd with hd | hd
        · exact h d hd
        · exact q d hd

theorem quotR_width (b : List UInt8) : ∃ ls, (quotR b).1 = SL ls ∧ ls.length ≤ 301 ∧ ∀ l ∈ ls, l.length ≤ 40 := by
  unfold quotR
  split
  · exact ⟨[], rfl, by simp, by simp⟩
  · refine ⟨_, rfl, ?_, encQ_width b [] (by simp)⟩
    have := encQ_length b []
    omega

theorem SL_set (ls : List (List UInt8)) (i : Nat) (t : List UInt8) : (SL ls).set i (S t) = SL (ls.set i t) := by
  unfold SL
  rw [List.map_set]
theorem decR_some {ls : List (List UInt8)} {b : List UInt8} (h : decL ls true = some b) (hb : b.length ≤ 300) : decR ls = (S b, true) := by
  unfold decR
  rw [h]
  exact if_pos hb
theorem decR_true {ls : List (List UInt8)} (h : (decR ls).2 = true) : ∃ b, decL ls true = some b ∧ b.length ≤ 300 ∧ decR ls = (S b, true) := by
  cases hd : decL ls true with
  | none =>
    unfold decR at h
    rw [hd] at h
    cases h
  | some b =>
    by_cases hb : b.length ≤ 300
    · exact ⟨b, rfl, hb, decR_some hd hb⟩
    · have : decR ls = (S [], false) := by
        unfold decR
        rw [hd]
        exact if_neg hb
      rw [this] at h
      cases h
theorem decR_false {ls : List (List UInt8)} (h : (decR ls).2 = false) : decR ls = (S [], false) := by
  cases hd : decL ls true with
  | none => unfold decR; rw [hd]
  | some b =>
    by_cases hb : b.length ≤ 300
    · rw [decR_some hd hb] at h
      cases h
    · unfold decR
      rw [hd]
      exact if_neg hb

end Go.Proofs.YtdkgbemlfajhcaaDoor.M
