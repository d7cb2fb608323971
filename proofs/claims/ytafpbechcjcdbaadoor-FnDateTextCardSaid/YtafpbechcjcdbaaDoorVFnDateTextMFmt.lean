/- Plain mathematics of dates that are written: digits, the text of a date; no program in sight. No conditions. -/
import Derived.Test.YtafpbechcjcdbaaDoorVFnDateTextMStr
namespace Go.Proofs.YtafpbechcjcdbaaDoor.M
open Go.RowKit Go.Proofs.YtafpbechcjcdbaaDoorW.PrintWords
def dg (n : Nat) : UInt8 := UInt8.ofNat (48 + n)
theorem dg_nat {n : Nat} (h : n < 10) : (dg n).toNat = 48 + n := by
  unfold dg
  rw [UInt8.toNat_ofNat']
  omega
theorem dg_extract (n : Nat) (h : n < 10) : (⟨#[48, 49, 50, 51, 52, 53, 54, 55, 56, 57]⟩ : ByteArray).extract n (n + 1) = S [dg n] := by
  have : n = 0 ∨ n = 1 ∨ n = 2 ∨ n = 3 ∨ n = 4 ∨ n = 5 ∨ n = 6 ∨ n = 7 ∨ n = 8 ∨ n = 9 := by omega
  rcases this with rfl | rfl | rfl | rfl | rfl | rfl | rfl | rfl | rfl | rfl <;> rfl
theorem dg_str {n : Nat} (h : n < 10) : strOfNums [wrap64 (48 + (n : Int)) % 256] = S [dg n] := by
  have w : wrap64 (48 + (n : Int)) = ((48 + n : Nat) : Int) := by rw [w64 (by omega) (by omega)]; omega
  rw [w, strOfNums_S]
  unfold dg
  simp only [List.map_cons, List.map_nil]
  have e : (((48 + n : Nat) : Int) % 256).toNat = 48 + n := by omega
  rw [e]
def two (n : Nat) : List UInt8 := [dg (n / 10), dg (n % 10)]
def four (n : Nat) : List UInt8 := [dg (n / 1000), dg (n / 100 % 10), dg (n / 10 % 10), dg (n % 10)]
def dayD (n : Nat) : List UInt8 := if n < 10 then [dg n] else two n
theorem two_len (n : Nat) : (two n).length = 2 := rfl
theorem four_len (n : Nat) : (four n).length = 4 := rfl
theorem dayD_len (n : Nat) : 1 ≤ (dayD n).length ∧ (dayD n).length ≤ 2 := by
  unfold dayD
  split <;> simp [two]
def monB (i : Nat) : List UInt8 := [[74, 97, 110], [70, 101, 98], [77, 97, 114], [65, 112, 114], [77, 97, 121], [74, 117, 110], [74, 117, 108], [65, 117, 103], [83, 101, 112], [79, 99, 116], [78, 111, 118], [68, 101, 99]].getD i [0, 0, 0]
theorem mon_cases {i : Nat} (h : i < 12) : i = 0 ∨ i = 1 ∨ i = 2 ∨ i = 3 ∨ i = 4 ∨ i = 5 ∨ i = 6 ∨ i = 7 ∨ i = 8 ∨ i = 9 ∨ i = 10 ∨ i = 11 := by omega
theorem monB_len {i : Nat} (h : i < 12) : (monB i).length = 3 := by
  rcases mon_cases h with rfl | rfl | rfl | rfl | rfl | rfl | rfl | rfl | rfl | rfl | rfl | rfl <;> rfl
theorem monB_rd {i : Nat} (h : i < 12) : rdOf ByteArray.empty ([⟨#[74, 97, 110]⟩, ⟨#[70, 101, 98]⟩, ⟨#[77, 97, 114]⟩, ⟨#[65, 112, 114]⟩, ⟨#[77, 97, 121]⟩, ⟨#[74, 117, 110]⟩, ⟨#[74, 117, 108]⟩, ⟨#[65, 117, 103]⟩, ⟨#[83, 101, 112]⟩, ⟨#[79, 99, 116]⟩, ⟨#[78, 111, 118]⟩, ⟨#[68, 101, 99]⟩] : List ByteArray) (i : Int) = S (monB i) := by
  rcases mon_cases h with rfl | rfl | rfl | rfl | rfl | rfl | rfl | rfl | rfl | rfl | rfl | rfl <;> rfl
def sgn (z : Int) : UInt8 := if z < 0 then 45 else 43
def absZ (z : Int) : Nat := z.natAbs
def headL (W : List UInt8) (y m d h mi s : Int) : List UInt8 := W ++ [44, 32] ++ dayD d.toNat ++ [32] ++ monB (m - 1).toNat ++ [32] ++ four y.toNat ++ [32] ++ two h.toNat ++ [58] ++ two mi.toNat ++ [58] ++ two s.toNat ++ [32]
def zoneL (z : Int) : List UInt8 := [sgn z] ++ two (absZ z / 60) ++ two (absZ z % 60)
def fmtL (W : List UInt8) (y m d h mi s z : Int) : List UInt8 := headL W y m d h mi s ++ zoneL z
theorem zoneL_len (z : Int) : (zoneL z).length = 5 := rfl
theorem headL_len {W : List UInt8} {y m d h mi s : Int} (hW : W.length = 3) (hm : 1 ≤ m ∧ m ≤ 12) : 25 ≤ (headL W y m d h mi s).length ∧ (headL W y m d h mi s).length ≤ 26 := by
  have h1 := dayD_len d.toNat
  have h2 : (monB (m - 1).toNat).length = 3 := monB_len (by omega)
  unfold headL
  simp only [List.length_append, two_len, four_len, List.length_cons, List.length_nil, hW, h2]
  omega
theorem fitsN {n : Nat} (h : n ≤ 1000) : n ≤ 9223372036854775807 := by omega
end Go.Proofs.YtafpbechcjcdbaaDoor.M
