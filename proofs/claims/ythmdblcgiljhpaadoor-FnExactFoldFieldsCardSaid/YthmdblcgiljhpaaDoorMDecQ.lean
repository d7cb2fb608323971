/- Plain mathematics of quoted lines, read: the bytes of a line, of lines; that what is written is read back; no program in sight. No conditions. -/
import Derived.Test.YthmdblcgiljhpaaDoorMQuot
namespace Go.Proofs.YthmdblcgiljhpaaDoor.M
open Go.RowKit Go.Proofs.YthmdblcgiljhpaaDoorW.PrintWords

/-- The number of a hexadecimal digit with capital letters. -/
def hexv (c : UInt8) : Option Nat := if 48 ≤ c.toNat ∧ c.toNat ≤ 57 then some (c.toNat - 48) else if 65 ≤ c.toNat ∧ c.toNat ≤ 70 then some (c.toNat - 55) else none

theorem hexv_lt {c : UInt8} {n : Nat} (h : hexv c = some n) : n < 16 := by
  unfold hexv at h
  split at h
  · have := Option.some.inj h
    omega
  · split at h
    · have := Option.some.inj h
      omega
    · cases h
theorem hexv_dig (n : Nat) (h : n < 16) : hexv (hexDig n) = some n := by
  have : n = 0 ∨ n = 1 ∨ n = 2 ∨ n = 3 ∨ n = 4 ∨ n = 5 ∨ n = 6 ∨ n = 7 ∨ n = 8 ∨ n = 9 ∨ n = 10 ∨ n = 11 ∨ n = 12 ∨ n = 13 ∨ n = 14 ∨ n = 15 := by omega
  rcases this with rfl | rfl | rfl | rfl | rfl | rfl | rfl | rfl | rfl | rfl | rfl | rfl | rfl | rfl | rfl | rfl <;> rfl

/-- A digit's number as the program has it. -/
def hv (c : UInt8) : Int := match hexv c with | some n => (n : Int) | none => -1
theorem hv_some {c : UInt8} {n : Nat} (h : hexv c = some n) : hv c = (n : Int) := by unfold hv; rw [h]
theorem hv_none {c : UInt8} (h : hexv c = none) : hv c = -1 := by unfold hv; rw [h]

/-- The bytes of a line, and whether it goes on in the next one. -/
def unq : List UInt8 → Option (List UInt8 × Bool)
  | [] => some ([], false)
  | [c] => if c.toNat = 61 then some ([], true) else if 32 ≤ c.toNat ∧ c.toNat ≤ 126 then some ([c], false) else none
  | [c, d] => if c.toNat = 61 then none else if 32 ≤ c.toNat ∧ c.toNat ≤ 126 then (unq [d]).map fun p => (c :: p.1, p.2) else none
  | c :: d :: e :: r =>
    if c.toNat = 61 then
      match hexv d, hexv e with
      | some x, some y => (unq r).map fun p => (UInt8.ofNat (16 * x + y) :: p.1, p.2)
      | _, _ => none
    else if 32 ≤ c.toNat ∧ c.toNat ≤ 126 then (unq (d :: e :: r)).map fun p => (c :: p.1, p.2) else none

/-- The bytes of lines; 'goes': does the line before go on in this one? -/
def decL : List (List UInt8) → Bool → Option (List UInt8)
  | [], goes => if goes then none else some []
  | l :: ls, goes => match unq l with
    | none => none
    | some (s, g) => (decL ls g).map fun t => (if goes then [] else [10]) ++ s ++ t

theorem decL_hard (l : List UInt8) (ls : List (List UInt8)) : decL (l :: ls) false = (decL (l :: ls) true).map fun t => [10] ++ t := by
  unfold decL
  cases unq l with
  | none => rfl
  | some p => cases h : decL ls p.2 <;> simp [h]

/-- What DecodeQuoted returns. -/
def decR (ls : List (List UInt8)) : ByteArray × Bool := match decL ls true with
  | some b => if b.length ≤ 300 then (S b, true) else (S [], false)
  | none => (S [], false)

theorem unq_plain {c : UInt8} {r : List UInt8} (h : c.toNat ≠ 61) (h1 : 32 ≤ c.toNat) (h2 : c.toNat ≤ 126) : unq (c :: r) = (unq r).map fun p => (c :: p.1, p.2) := by
  match r with
  | [] => simp [unq, h, h1, h2]
  | [d] => simp [unq, h, h1, h2]
  | d :: e :: r => simp [unq, h, h1, h2]
theorem unq_hex {d e : UInt8} {x y : Nat} {r : List UInt8} (h1 : hexv d = some x) (h2 : hexv e = some y) : unq (61 :: d :: e :: r) = (unq r).map fun p => (UInt8.ofNat (16 * x + y) :: p.1, p.2) := by
  rw [unq, if_pos (by decide), h1, h2]
theorem unq_bad {c : UInt8} {r : List UInt8} (h : c.toNat ≠ 61) (h1 : ¬ (32 ≤ c.toNat ∧ c.toNat ≤ 126)) : unq (c :: r) = none := by
  match r with
  | [] => rw [unq, if_neg h, if_neg h1]
  | [d] => simp only [unq, if_neg h, if_neg h1]
  | d :: e :: r => simp only [unq, if_neg h, if_neg h1]

/-- What stands for a byte is read back. -/
theorem unq_quoteB (c : UInt8) (last : Bool) (r : List UInt8) : unq (quoteB c last ++ r) = (unq r).map fun p => (c :: p.1, p.2) := by
  unfold quoteB
  split
  · rename_i h
    unfold plainQ at h
    have : c.toNat ≠ 61 ∧ 32 ≤ c.toNat ∧ c.toNat ≤ 126 := by
      simp at h
      omega
    exact unq_plain this.1 this.2.1 this.2.2
  · have hlt := c.toNat_lt
    have := unq_hex (r := r) (hexv_dig (c.toNat / 16) (by omega)) (hexv_dig (c.toNat % 16) (by omega))
    have e : UInt8.ofNat (16 * (c.toNat / 16) + c.toNat % 16) = c := by
      apply UInt8.toNat_inj.1
      rw [UInt8.toNat_ofNat']
      omega
    rw [e] at this
    exact this

end Go.Proofs.YthmdblcgiljhpaaDoor.M
