/- Plain mathematics of coded words; no program in sight. No conditions. -/
import Derived.Test.YthmdblcgiljhpaaDoorMQuot
namespace Go.Proofs.YthmdblcgiljhpaaDoor.M
open Go.RowKit Go.Proofs.YthmdblcgiljhpaaDoorW.PrintWords

def isAlpha (n : Int) : Bool := decide ((97 ≤ n ∧ n ≤ 122) ∨ (65 ≤ n ∧ n ≤ 90))
def isNum (n : Int) : Bool := decide (48 ≤ n ∧ n ≤ 57)
def selfC (n : Int) : Bool := isAlpha n || isNum n || decide (n = 45) || decide (n = 46)
/-- What stands for a byte in a coded word. -/
def codeB (c : UInt8) : List UInt8 := if selfC (c.toNat : Int) then [c] else if c.toNat = 32 then [95] else hex3 c
def codeL (b : List UInt8) : List UInt8 := b.flatMap codeB
def codePre : List UInt8 := [61, 63, 117, 116, 102, 45, 56, 63, 113, 63]
def codeW (b : List UInt8) : List UInt8 := codePre ++ codeL b ++ [63, 61]

theorem codeB_length (c : UInt8) : 1 ≤ (codeB c).length ∧ (codeB c).length ≤ 3 := by
  unfold codeB
  split
  · simp
  · split
    · simp
    · rw [hex3_length]
      omega
theorem codeL_nil : codeL [] = [] := rfl
theorem codeL_snoc (b : List UInt8) (c : UInt8) : codeL (b ++ [c]) = codeL b ++ codeB c := by unfold codeL; rw [List.flatMap_append]; simp
theorem codeL_append (a b : List UInt8) : codeL (a ++ b) = codeL a ++ codeL b := by unfold codeL; rw [List.flatMap_append]
theorem codeL_cons (c : UInt8) (b : List UInt8) : codeL (c :: b) = codeB c ++ codeL b := by unfold codeL; rw [List.flatMap_cons]
theorem codeL_length (b : List UInt8) : b.length ≤ (codeL b).length ∧ (codeL b).length ≤ 3 * b.length := by
  induction b with
  | nil => simp [codeL]
  | cons c r ih =>
    have := codeB_length c
    rw [codeL_cons, List.length_append, List.length_cons]
    omega
theorem codeW_length (b : List UInt8) : (codeW b).length = (codeL b).length + 12 := by
  unfold codeW codePre
  simp

/-- Does a text have a coded word? -/
def codeOK (b : List UInt8) : Prop := 1 ≤ b.length ∧ b.length ≤ 40 ∧ (codeW b).length ≤ 40
instance (b : List UInt8) : Decidable (codeOK b) := by unfold codeOK; exact inferInstance
/-- What CodeWord returns. -/
def codeR (b : List UInt8) : ByteArray × Bool := if codeOK b then (S (codeW b), true) else (S [], false)

/-- A printable byte. -/
def printB (c : UInt8) : Prop := 32 ≤ c.toNat ∧ c.toNat ≤ 126
theorem hexDig_print (n : Nat) (h : n < 16) : 48 ≤ (hexDig n).toNat ∧ (hexDig n).toNat ≤ 70 := by
  have : n = 0 ∨ n = 1 ∨ n = 2 ∨ n = 3 ∨ n = 4 ∨ n = 5 ∨ n = 6 ∨ n = 7 ∨ n = 8 ∨ n = 9 ∨ n = 10 ∨ n = 11 ∨ n = 12 ∨ n = 13 ∨ n = 14 ∨ n = 15 := by omega
  rcases this with rfl | rfl | rfl | rfl | rfl | rfl | rfl | rfl | rfl | rfl | rfl | rfl | rfl | rfl | rfl | rfl <;> decide
theorem codeB_print (c : UInt8) : ∀ d ∈ codeB c, 33 ≤ d.toNat ∧ d.toNat ≤ 126 := by
  intro d hd
  unfold codeB at hd
  split at hd
  · rename_i h
    simp only [List.mem_singleton] at hd
    subst hd
    unfold selfC isAlpha isNum at h
    simp at h
    omega
  · split at hd
    · simp only [List.mem_singleton] at hd
      subst hd
      decide
    · have h1 := hexDig_print (c.toNat / 16) (by have := c.toNat_lt; omega)
      have h2 := hexDig_print (c.toNat % 16) (by omega)
      simp only [hex3, List.mem_cons, List.not_mem_nil, or_false] at hd
      rcases hd with rfl | rfl | rfl
      · decide
      · omega
      · omega
theorem codeW_print (b : List UInt8) : ∀ d ∈ codeW b, 33 ≤ d.toNat ∧ d.toNat ≤ 126 := by
  intro d hd
  unfold codeW at hd
  rw [List.mem_append, List.mem_append] at hd
  rcases hd with (hd | hd) | hd
  · simp only [codePre, List.mem_cons, List.not_mem_nil, or_false] at hd
    rcases hd with rfl | rfl | rfl | rfl | rfl | rfl | rfl | rfl | rfl | rfl <;> decide
  · unfold codeL at hd
    obtain ⟨c, _, hc⟩ := List.mem_flatMap.1 hd
    exact codeB_print c d hc
  · simp only [List.mem_cons, List.not_mem_nil, or_false] at hd
    rcases hd with rfl | rfl <;> decide

end Go.Proofs.YthmdblcgiljhpaaDoor.M
