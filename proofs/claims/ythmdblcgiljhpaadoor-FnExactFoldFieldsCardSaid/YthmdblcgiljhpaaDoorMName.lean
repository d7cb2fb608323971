/- Plain mathematics of names that are read; no program in sight. No conditions. -/
import Derived.Test.YthmdblcgiljhpaaDoorMParts
import Derived.Test.YthmdblcgiljhpaaDoorMRead
namespace Go.Proofs.YthmdblcgiljhpaaDoor.M
open Go.RowKit Go.Proofs.YthmdblcgiljhpaaDoorW.PrintWords

/-- Is a word a coded one; what it stands for. -/
noncomputable def isC (p : List UInt8) : Bool := (readR p).2
noncomputable def ownN (p : List UInt8) : List UInt8 := if isC p = true then (readR p).1.data.toList else p
theorem readR_eq (p : List UInt8) : readR p = (S (readR p).1.data.toList, isC p) := by
  rw [S_eta]
  rfl
theorem ownN_length (p : List UInt8) : (ownN p).length ≤ p.length := by
  unfold ownN
  by_cases h : ∃ b, codeOK b ∧ codeW b = p
  · obtain ⟨b, h1, h2⟩ := h
    have e : isC p = true := by unfold isC; rw [readR_pos h1 h2]
    rw [if_pos e, readR_pos h1 h2, data_S]
    have := codeW_length b
    have := codeL_length b
    rw [← h2]
    omega
  · have e : isC p = false := by unfold isC; rw [readR_neg h]
    rw [e, if_neg (by decide)]
    exact Nat.le_refl _
theorem ownN_not {p : List UInt8} (h : isC p = false) : ownN p = p := by unfold ownN; rw [h, if_neg (by decide)]
theorem ownN_is {p : List UInt8} (h : isC p = true) : ownN p = (readR p).1.data.toList := by unfold ownN; rw [if_pos h]
/-- What words stand for; 'first': is it the first one; 'coded': was the one before coded? -/
noncomputable def decN : List (List UInt8) → Bool → Bool → List UInt8
  | [], _, _ => []
  | p :: r, first, coded => (if first = true ∨ (coded = true ∧ isC p = true) then [] else [32]) ++ (ownN p ++ decN r false (isC p))
theorem decN_near {p : List UInt8} (r : List (List UInt8)) {first coded : Bool} (h : first = true ∨ (coded = true ∧ isC p = true)) : decN (p :: r) first coded = ownN p ++ decN r false (isC p) := by
  rw [decN, if_pos h, List.nil_append]
theorem decN_far {p : List UInt8} (r : List (List UInt8)) {first coded : Bool} (h : ¬ (first = true ∨ (coded = true ∧ isC p = true))) : decN (p :: r) first coded = [32] ++ (ownN p ++ decN r false (isC p)) := by
  rw [decN, if_neg h]
/-- A name that is not too long. -/
def resN (o : List UInt8) : ByteArray × Bool := if o.length > 120 then (S [], false) else (S o, true)
theorem resN_long {o : List UInt8} (h : o.length > 120) : resN o = (S [], false) := by unfold resN; rw [if_pos h]
theorem resN_short {o : List UInt8} (h : ¬ o.length > 120) : resN o = (S o, true) := by unfold resN; rw [if_neg h]
/-- What DecodeName returns. -/
noncomputable def nameR (s : List UInt8) : ByteArray × Bool := if s.length > 600 then (S [], false) else resN (decN (parts 32 s) true false)

end Go.Proofs.YthmdblcgiljhpaaDoor.M
